/- CustomersOf and its reference. -/
import Derived.Test.YtjeklbhdngkngaaSorted
import Derived.Test.YtjeklbhdngkngaaPut
import Derived.Test.YtjeklbhdngkngaaNames
import Derived.Test.YtjeklbhdngkngaaVVisit
namespace Go.Proofs.Ytjeklbhdngkngaa
open Go.RowKit
set_option linter.unusedVariables false
def custN (xs : List DVisit) (k : Nat) : List Str := match xs[k]? with | some x => [x.fWho.data.toList] | none => []
theorem custN_at {xs : List DVisit} {k : Nat} (h : k < xs.length) : custN xs k = [xs[k].fWho.data.toList] := by simp only [custN, List.getElem?_eq_getElem h]
theorem custN_len (xs : List DVisit) (k : Nat) : (custN xs k).length ≤ 1 := by
  unfold custN
  split <;> simp

set_option maxHeartbeats 1600000 in
set_option maxRecDepth 100000 in
theorem customers_ok (A : Option Addr) (c : Nat) (xs : List DVisit) (w : World) (hA : RowsAt w 4 A (xs.map DVisit.cells)) (hn : xs.length ≤ 64) :
    Calls Try.prog 103 #[.slice A xs.length c] w fun e w' => (∃ g c', e = .returned (.slice (some ⟨g, 0, none⟩) (setOf (namesN (custN xs) xs.length)).length c') ∧ w'.ownsRow w.heap.size 9 1 (.slice (some ⟨g, 0, none⟩) (setOf (namesN (custN xs) xs.length)).length c') (setOf (namesN (custN xs) xs.length)).length ((setOf (namesN (custN xs) xs.length)).map vS)) ∧ Below w.heap.size w w' := by
  have HA := hid hA
  clear hA
  go_enter Try.func103, Try.ntmps103
  go_wp2_with fail
  go_loopw [3, 9] (fun v m wr => ∃ (k g cc : Nat), k ≤ xs.length ∧ m = .int .i64 k ∧ v = .slice (some ⟨g, 0, none⟩) (namesN (custN xs) k).length cc ∧ wr.ownsRow w.heap.size 9 1 (.slice (some ⟨g, 0, none⟩) (namesN (custN xs) k).length cc) (namesN (custN xs) k).length ((namesN (custN xs) k).map vS) ∧ Below w.heap.size w wr) (fun _ m _ => xs.length - (intOf m).toNat)
  case atStart => exact ⟨0, _, _, Nat.zero_le _, rfl, rfl, World.ownsRow_lit _ _ 0 (Nat.le_refl _) (by unfold maxLen; omega) rfl, below_alloc _ _⟩
  case round =>
    obtain ⟨k, g, cc, hk, rfl, rfl, hown, hbel⟩ := hrel
    have HO := hid hown
    have HB := hid hbel
    have hnl : (namesN (custN xs) k).length ≤ 1 * k := namesN_len (custN_len xs) k
    clear hown hbel
    by_cases hkl : k < xs.length
    · have hne : xs.map DVisit.cells ≠ [] := by intro e; rw [List.map_eq_nil_iff] at e; rw [e] at hkl; exact absurd hkl (by simp)
      obtain ⟨b, o, rfl, hlt, hc⟩ := (HA.out.below HB.out) hne
      have HC := hid hc
      have hc0 : wr.cell? ⟨b, o + k * 4, none⟩ = some (.int .i64 xs[k].fDay) := HC.out k _ (by rw [List.getElem?_map, List.getElem?_eq_getElem hkl]; rfl) 0 _ rfl
      have hc1 : wr.cell? ⟨b, o + k * 4 + 1, none⟩ = some (.string xs[k].fWho) := HC.out k _ (by rw [List.getElem?_map, List.getElem?_eq_getElem hkl]; rfl) 1 _ rfl
      have hc2 : wr.cell? ⟨b, o + k * 4 + 2, none⟩ = some (.int .i64 xs[k].fKind) := HC.out k _ (by rw [List.getElem?_map, List.getElem?_eq_getElem hkl]; rfl) 2 _ rfl
      have hc3 : wr.cell? ⟨b, o + k * 4 + 3, none⟩ = some (.int .i64 xs[k].fAmount) := HC.out k _ (by rw [List.getElem?_map, List.getElem?_eq_getElem hkl]; rfl) 3 _ rfl
      have q0 : (0 : Int) ≤ (k : Int) := by omega
      have q1 : (k : Int) < xs.length := by omega
      clear hc hne
      have NC := hid (HasC.new wr [.int .i64 xs[k].fDay, .string xs[k].fWho, .int .i64 xs[k].fKind, .int .i64 xs[k].fAmount] 76)
      have n1 := NC.out.2 1 _ rfl
      have O5 := hid (HO.out.alloc (.cells #[.int .i64 xs[k].fDay, .string xs[k].fWho, .int .i64 xs[k].fKind, .int .i64 xs[k].fAmount] 76))
      have B5 := hid (HB.out.alloc HB.out.size (.cells #[.int .i64 xs[k].fDay, .string xs[k].fWho, .int .i64 xs[k].fKind, .int .i64 xs[k].fAmount] 76))
      have HE := hid (show (namesN (custN xs) k).map vS ++ [.string xs[k].fWho] = (namesN (custN xs) (k + 1)).map vS by
        rw [namesN, List.map_append, custN_at hkl]
        simp only [List.map_cons, List.map_nil, vS_data])
      have LE := hid (show (namesN (custN xs) k).length + 1 = (namesN (custN xs) (k + 1)).length by rw [namesN, List.length_append, custN_at hkl]; rfl)
      go_wp2_with (at_builtin; refine wpList_app (w0 := w) rfl (.tmp 13) (.tmp 16) 57 rfl w.heap.size 9 (.string ⟨#[]⟩) 1 16 Try.underlying57 infoStr rfl (by decide) _ _ _ rfl O5.out #[.string xs[k].fWho] 1 1 (by simp [Act.eval]) rfl (by simp [Value.oneCell']) (by omega) B5.out.size B5.out ?_; intro v1 w6 hown1 hbel1 hz1 _; obtain ⟨g6, c6, rfl, hf6⟩ := own_form hown1 (by omega))
      go_roundw
      case rel => exact ⟨k + 1, g6, c6, by omega, by go_num, by rw [← LE.out], by rw [← HE.out, ← LE.out]; exact hown1, hbel1⟩
      case measure => simp [intOf]; omega
    · have hk2 : k = xs.length := by omega
      subst hk2
      go_wp2_with (go_at_call 129; refine (sortedSet_ok g cc _ w _ HO.out HB.out (by omega)).mono ?_; rintro e w7 ⟨rfl, ho7, hb7⟩)
      go_ret
      exact ⟨⟨g, cc, rfl, ho7⟩, hb7⟩

set_option maxHeartbeats 1600000 in
set_option maxRecDepth 100000 in
theorem l22Customers_ok (A : Option Addr) (c : Nat) (xs : List DVisit) (w : World) (hA : RowsAt w 4 A (xs.map DVisit.cells)) (hn : xs.length ≤ 64) :
    Calls Try.prog 101 #[.slice A xs.length c] w fun e w' => (∃ g c', e = .returned (.slice (some ⟨g, 0, none⟩) (setOf (namesN (custN xs) xs.length)).length c') ∧ w'.ownsRow w.heap.size 9 1 (.slice (some ⟨g, 0, none⟩) (setOf (namesN (custN xs) xs.length)).length c') (setOf (namesN (custN xs) xs.length)).length ((setOf (namesN (custN xs) xs.length)).map vS)) ∧ Below w.heap.size w w' := by
  have HA := hid hA
  clear hA
  go_enter Try.func101, Try.ntmps101
  go_wp2_with fail
  go_loopw [3, 4] (fun v m wr => ∃ (k g cc : Nat), k ≤ xs.length ∧ m = .int .i64 k ∧ v = .slice (some ⟨g, 0, none⟩) (setOf (namesN (custN xs) k)).length cc ∧ wr.ownsRow w.heap.size 9 1 (.slice (some ⟨g, 0, none⟩) (setOf (namesN (custN xs) k)).length cc) (setOf (namesN (custN xs) k)).length ((setOf (namesN (custN xs) k)).map vS) ∧ Below w.heap.size w wr) (fun _ m _ => xs.length - (intOf m).toNat)
  case atStart => exact ⟨0, _, _, Nat.zero_le _, rfl, rfl, World.ownsRow_lit _ _ 0 (Nat.le_refl _) (by unfold maxLen; omega) rfl, below_alloc _ _⟩
  case round =>
    obtain ⟨k, g, cc, hk, rfl, rfl, hown, hbel⟩ := hrel
    have HO := hid hown
    have HB := hid hbel
    have hnl : (namesN (custN xs) k).length ≤ 1 * k := namesN_len (custN_len xs) k
    have hsl := setOf_len (namesN (custN xs) k)
    clear hown hbel
    by_cases hkl : k < xs.length
    · have hne : xs.map DVisit.cells ≠ [] := by intro e; rw [List.map_eq_nil_iff] at e; rw [e] at hkl; exact absurd hkl (by simp)
      obtain ⟨b, o, rfl, hlt, hc⟩ := (HA.out.below HB.out) hne
      have HC := hid hc
      have hc1 : wr.cell? ⟨b, o + k * 4 + 1, none⟩ = some (.string xs[k].fWho) := HC.out k _ (by rw [List.getElem?_map, List.getElem?_eq_getElem hkl]; rfl) 1 _ rfl
      have q0 : (0 : Int) ≤ (k : Int) := by omega
      have q1 : (k : Int) < xs.length := by omega
      clear hc hne
      have HE := hid (show (putS (setOf (namesN (custN xs) k)) xs[k].fWho.data.toList) = setOf (namesN (custN xs) (k + 1)) by
        rw [namesN, custN_at hkl]
        simp only [setOf, List.foldl_append, List.foldl_cons, List.foldl_nil])
      go_wp2_with (first | (go_at_call 139; refine (l19Put_ok g cc (setOf (namesN (custN xs) k)) xs[k].fWho w.heap.size _ HO.out (setOf_up (namesN (custN xs) k)) (by have := setOf_len (namesN (custN xs) k); omega) HB.out.size).mono ?_; rintro e v1 ⟨⟨g1, c1, rfl, ho⟩, hb⟩; have O1 := hid ho; have B1 := hid (below_up HB.out HB.out.size hb); have U1 := hid (putS_up xs[k].fWho.data.toList (setOf_up (namesN (custN xs) k))); have L1 := putS_len (setOf (namesN (custN xs) k)) xs[k].fWho.data.toList; clear ho hb))
      go_roundw
      case rel => exact ⟨k + 1, g1, c1, by omega, by go_num, by rw [← HE.out], by rw [← HE.out]; exact O1.out, B1.out⟩
      case measure => simp [intOf]; omega
    · have hk2 : k = xs.length := by omega
      subst hk2
      go_wp2_with fail
      go_ret
      exact ⟨⟨g, cc, rfl, HO.out⟩, HB.out⟩

noncomputable def fCust (xs : List DVisit) : List Str × Int := if visitsB xs = false then ([], 1) else (setOf (namesN (custN xs) xs.length), 0)
theorem fCust_small (xs : List DVisit) : (fCust xs).1.length ≤ 64 := by
  unfold fCust
  split
  · simp
  · rename_i h1
    have h := visitsB_iff.1 (by simpa using h1)
    have h2 := setOf_len (namesN (custN xs) xs.length)
    have h3 := namesN_len (custN_len xs) xs.length
    show (setOf (namesN (custN xs) xs.length)).length ≤ 64
    omega


set_option maxHeartbeats 1600000 in
set_option maxRecDepth 100000 in
theorem specCust_ok (A : Option Addr) (c : Nat) (xs : List DVisit) (w : World) (hA : RowsAt w 4 A (xs.map DVisit.cells)) (hok : ∀ x ∈ xs, x.ok) (hn : xs.length ≤ 1048576) :
    Calls Try.prog 48 #[.slice A xs.length c] w (RetSC w (fCust xs)) := by
  have HA := hid hA
  have HK := hid hok
  clear hA hok
  cases c1 : visitsB xs
  · have HF := hid (show fCust xs = ([], 1) by unfold fCust; rw [if_pos c1])
    go_enter Try.func48, Try.ntmps48
    go_wp2_with fail
    refine (l22Ok_ok A c xs _ HA.out HK.out hn).mono ?_
    rintro e w1 ⟨rfl, hb⟩
    go_wp2_with fail
    go_ret2
    exact RetSC.nil HF.out hb
  have HF := hid (show fCust xs = (setOf (namesN (custN xs) xs.length), 0) by unfold fCust; rw [if_neg (by rw [c1]; exact fun h => by cases h)])
  have h32 := (visitsB_iff.1 c1).2
  go_enter Try.func48, Try.ntmps48
  go_wp2_with fail
  refine (l22Ok_ok A c xs _ HA.out HK.out hn).mono ?_
  rintro e w1 ⟨rfl, hb⟩
  have B1 := hid hb
  clear hb
  go_wp2_with (go_at_call 101; refine (l22Customers_ok _ _ xs _ (HA.out.below B1.out) (by omega)).mono ?_; rintro e w2 ⟨⟨g2, c2, rfl, ho⟩, hb2⟩)
  go_ret2
  exact RetSC.own HF.out (own_mono ho B1.out.size) (below_trans B1.out hb2)

end Go.Proofs.Ytjeklbhdngkngaa
