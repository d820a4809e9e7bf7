/- OwnersOf and its reference. -/
import Derived.Test.YtfagfohcbdlaeaaSorted
import Derived.Test.YtfagfohcbdlaeaaPut
import Derived.Test.YtfagfohcbdlaeaaNames
import Derived.Test.YtfagfohcbdlaeaaVDeed
namespace Go.Proofs.Ytfagfohcbdlaeaa
open Go.RowKit
set_option linter.unusedVariables false
def ownN (xs : List DDeed) (k : Nat) : List Str := match xs[k]? with | some x => [x.fFrom.data.toList, x.fTo.data.toList] | none => []
theorem ownN_at {xs : List DDeed} {k : Nat} (h : k < xs.length) : ownN xs k = [xs[k].fFrom.data.toList, xs[k].fTo.data.toList] := by simp only [ownN, List.getElem?_eq_getElem h]
theorem ownN_len (xs : List DDeed) (k : Nat) : (ownN xs k).length ≤ 2 := by
  unfold ownN
  split <;> simp

noncomputable def fOwn (xs : List DDeed) : List Str × Int := if deedsB xs = false then ([], 1) else (setOf (namesN (ownN xs) xs.length), 0)
theorem fOwn_small (xs : List DDeed) : (fOwn xs).1.length ≤ 64 := by
  unfold fOwn
  split
  · simp
  · rename_i h1
    have h := deedsB_iff.1 (by simpa using h1)
    have h2 := setOf_len (namesN (ownN xs) xs.length)
    have h3 := namesN_len (ownN_len xs) xs.length
    show (setOf (namesN (ownN xs) xs.length)).length ≤ 64
    omega

set_option maxHeartbeats 1600000 in
set_option maxRecDepth 100000 in
theorem implOwn_ok (A : Option Addr) (c : Nat) (xs : List DDeed) (w : World) (hA : RowsAt w 4 A (xs.map DDeed.cells)) (hok : ∀ x ∈ xs, x.ok) (hn : xs.length ≤ 1048576) :
    Calls Try.prog 18 #[.slice A xs.length c] w (RetSC w (fOwn xs)) := by
  have HA := hid hA
  have HK := hid hok
  clear hA hok
  cases c1 : deedsB xs
  · have HF := hid (show fOwn xs = ([], 1) by unfold fOwn; rw [if_pos c1])
    go_enter Try.func18, Try.ntmps18
    go_wp2_with fail
    refine (ValidDeeds_ok A c xs _ HA.out HK.out hn).mono ?_
    rintro e w1 ⟨rfl, hb⟩
    go_wp2_with fail
    go_ret2
    exact RetSC.nil HF.out hb
  have HF := hid (show fOwn xs = (setOf (namesN (ownN xs) xs.length), 0) by unfold fOwn; rw [if_neg (by rw [c1]; exact fun h => by cases h)])
  have HH := hid (deedsB_iff.1 c1)
  have h16 := HH.out.2
  go_enter Try.func18, Try.ntmps18
  go_wp2_with fail
  refine (ValidDeeds_ok A c xs _ HA.out HK.out hn).mono ?_
  rintro e w1 ⟨rfl, hb⟩
  have B1 := hid hb
  have HA := hid (HA.out.below B1.out)
  clear hb
  go_wp2_with fail
  go_loopw [4, 13] (fun v m wr => ∃ (k g cc : Nat), k ≤ xs.length ∧ m = .int .i64 k ∧ v = .slice (some ⟨g, 0, none⟩) (namesN (ownN xs) k).length cc ∧ wr.ownsRow w1.heap.size 9 1 (.slice (some ⟨g, 0, none⟩) (namesN (ownN xs) k).length cc) (namesN (ownN xs) k).length ((namesN (ownN xs) k).map vS) ∧ Below w1.heap.size w1 wr) (fun _ m _ => xs.length - (intOf m).toNat)
  case atStart => exact ⟨0, _, _, Nat.zero_le _, rfl, rfl, World.ownsRow_lit _ _ 0 (Nat.le_refl _) (by unfold maxLen; omega) rfl, below_alloc _ _⟩
  case round =>
    obtain ⟨k, g, cc, hk, rfl, rfl, hown, hbel⟩ := hrel
    have HO := hid hown
    have HB := hid hbel
    have hnl : (namesN (ownN xs) k).length ≤ 2 * k := namesN_len (ownN_len xs) k
    clear hown hbel
    by_cases hkl : k < xs.length
    · have hne : xs.map DDeed.cells ≠ [] := by intro e; rw [List.map_eq_nil_iff] at e; rw [e] at hkl; exact absurd hkl (by simp)
      obtain ⟨b, o, rfl, hlt, hc⟩ := (HA.out.below HB.out) hne
      have HC := hid hc
      have hc0 : wr.cell? ⟨b, o + k * 4, none⟩ = some (.string xs[k].fFrom) := HC.out k _ (by rw [List.getElem?_map, List.getElem?_eq_getElem hkl]; rfl) 0 _ rfl
      have hc1 : wr.cell? ⟨b, o + k * 4 + 1, none⟩ = some (.string xs[k].fTo) := HC.out k _ (by rw [List.getElem?_map, List.getElem?_eq_getElem hkl]; rfl) 1 _ rfl
      have hc2 : wr.cell? ⟨b, o + k * 4 + 2, none⟩ = some (.int .i64 xs[k].fYear) := HC.out k _ (by rw [List.getElem?_map, List.getElem?_eq_getElem hkl]; rfl) 2 _ rfl
      have hc3 : wr.cell? ⟨b, o + k * 4 + 3, none⟩ = some (.int .i64 xs[k].fDoubt) := HC.out k _ (by rw [List.getElem?_map, List.getElem?_eq_getElem hkl]; rfl) 3 _ rfl
      have q0 : (0 : Int) ≤ (k : Int) := by omega
      have q1 : (k : Int) < xs.length := by omega
      clear hc hne
      have NC := hid (HasC.new wr [.string xs[k].fFrom, .string xs[k].fTo, .int .i64 xs[k].fYear, .int .i64 xs[k].fDoubt] 97)
      have n0 := NC.out.2 0 _ rfl
      have n1 := NC.out.2 1 _ rfl
      have O5 := hid (HO.out.alloc (.cells #[.string xs[k].fFrom, .string xs[k].fTo, .int .i64 xs[k].fYear, .int .i64 xs[k].fDoubt] 97))
      have B5 := hid (HB.out.alloc HB.out.size (.cells #[.string xs[k].fFrom, .string xs[k].fTo, .int .i64 xs[k].fYear, .int .i64 xs[k].fDoubt] 97))
      have HE := hid (show (namesN (ownN xs) k).map vS ++ [.string xs[k].fFrom, .string xs[k].fTo] = (namesN (ownN xs) (k + 1)).map vS by
        rw [namesN, List.map_append, ownN_at hkl]
        simp only [List.map_cons, List.map_nil, vS_data])
      have LE := hid (show (namesN (ownN xs) k).length + 2 = (namesN (ownN xs) (k + 1)).length by rw [namesN, List.length_append, ownN_at hkl]; rfl)
      go_wp2_with (at_builtin; refine wpList_app (w0 := w1) rfl (.tmp 17) (.tmp 22) 24 rfl w1.heap.size 9 (.string ⟨#[]⟩) 1 16 Try.underlying24 infoStr rfl (by decide) _ _ _ rfl O5.out #[.string xs[k].fFrom, .string xs[k].fTo] 2 2 (by simp [Act.eval]) rfl (by simp [Value.oneCell']) (by omega) B5.out.size B5.out ?_; intro v1 w6 hown1 hbel1 hz1 _; obtain ⟨g6, c6, rfl, hf6⟩ := own_form hown1 (by omega))
      go_roundw
      case rel => exact ⟨k + 1, g6, c6, by omega, by go_num, by rw [← LE.out], by rw [← HE.out, ← LE.out]; exact hown1, hbel1⟩
      case measure => simp [intOf]; omega
    · have hk2 : k = xs.length := by omega
      subst hk2
      go_wp2_with (go_at_call 78; refine (sortedSet_ok g cc _ w1 _ HO.out HB.out (by omega)).mono ?_; rintro e w7 ⟨rfl, ho7, hb7⟩)
      go_ret2
      exact RetSC.own HF.out (own_mono ho7 B1.out.size) (B1.out.trans (hb7.mono B1.out.size))

set_option maxHeartbeats 1600000 in
set_option maxRecDepth 100000 in
theorem specOwn_ok (A : Option Addr) (c : Nat) (xs : List DDeed) (w : World) (hA : RowsAt w 4 A (xs.map DDeed.cells)) (hok : ∀ x ∈ xs, x.ok) (hn : xs.length ≤ 1048576) :
    Calls Try.prog 16 #[.slice A xs.length c] w (RetSC w (fOwn xs)) := by
  have HA := hid hA
  have HK := hid hok
  clear hA hok
  cases c1 : deedsB xs
  · have HF := hid (show fOwn xs = ([], 1) by unfold fOwn; rw [if_pos c1])
    go_enter Try.func16, Try.ntmps16
    go_wp2_with fail
    refine (l19Ok_ok A c xs _ HA.out HK.out hn).mono ?_
    rintro e w1 ⟨rfl, hb⟩
    go_wp2_with fail
    go_ret2
    exact RetSC.nil HF.out hb
  have HF := hid (show fOwn xs = (setOf (namesN (ownN xs) xs.length), 0) by unfold fOwn; rw [if_neg (by rw [c1]; exact fun h => by cases h)])
  have HH := hid (deedsB_iff.1 c1)
  have h16 := HH.out.2
  go_enter Try.func16, Try.ntmps16
  go_wp2_with fail
  refine (l19Ok_ok A c xs _ HA.out HK.out hn).mono ?_
  rintro e w1 ⟨rfl, hb⟩
  have B1 := hid hb
  have HA := hid (HA.out.below B1.out)
  clear hb
  go_wp2_with fail
  go_loopw [4, 5] (fun v m wr => ∃ (k g cc : Nat), k ≤ xs.length ∧ m = .int .i64 k ∧ v = .slice (some ⟨g, 0, none⟩) (setOf (namesN (ownN xs) k)).length cc ∧ wr.ownsRow w1.heap.size 9 1 (.slice (some ⟨g, 0, none⟩) (setOf (namesN (ownN xs) k)).length cc) (setOf (namesN (ownN xs) k)).length ((setOf (namesN (ownN xs) k)).map vS) ∧ Below w1.heap.size w1 wr) (fun _ m _ => xs.length - (intOf m).toNat)
  case atStart => exact ⟨0, _, _, Nat.zero_le _, rfl, rfl, World.ownsRow_lit _ _ 0 (Nat.le_refl _) (by unfold maxLen; omega) rfl, below_alloc _ _⟩
  case round =>
    obtain ⟨k, g, cc, hk, rfl, rfl, hown, hbel⟩ := hrel
    have HO := hid hown
    have HB := hid hbel
    have hnl : (namesN (ownN xs) k).length ≤ 2 * k := namesN_len (ownN_len xs) k
    have hsl := setOf_len (namesN (ownN xs) k)
    clear hown hbel
    by_cases hkl : k < xs.length
    · have hne : xs.map DDeed.cells ≠ [] := by intro e; rw [List.map_eq_nil_iff] at e; rw [e] at hkl; exact absurd hkl (by simp)
      obtain ⟨b, o, rfl, hlt, hc⟩ := (HA.out.below HB.out) hne
      have HC := hid hc
      have hc0 : wr.cell? ⟨b, o + k * 4, none⟩ = some (.string xs[k].fFrom) := HC.out k _ (by rw [List.getElem?_map, List.getElem?_eq_getElem hkl]; rfl) 0 _ rfl
      have hc1 : wr.cell? ⟨b, o + k * 4 + 1, none⟩ = some (.string xs[k].fTo) := HC.out k _ (by rw [List.getElem?_map, List.getElem?_eq_getElem hkl]; rfl) 1 _ rfl
      have q0 : (0 : Int) ≤ (k : Int) := by omega
      have q1 : (k : Int) < xs.length := by omega
      clear hc hne
      have HE := hid (show (putS (putS (setOf (namesN (ownN xs) k)) xs[k].fFrom.data.toList) xs[k].fTo.data.toList) = setOf (namesN (ownN xs) (k + 1)) by
        rw [namesN, ownN_at hkl]
        simp only [setOf, List.foldl_append, List.foldl_cons, List.foldl_nil])
      go_wp2_with (first | (go_at_call 75; refine (l19Put_ok g1 c1 (putS (setOf (namesN (ownN xs) k)) xs[k].fFrom.data.toList) xs[k].fTo w1.heap.size _ O1.out U1.out (by omega) B1.out.size).mono ?_; rintro e v2 ⟨⟨g2, c2, rfl, ho⟩, hb⟩; have O2 := hid ho; have B2 := hid (below_up B1.out B1.out.size hb); have U2 := hid (putS_up xs[k].fTo.data.toList U1.out); have L2 := putS_len (putS (setOf (namesN (ownN xs) k)) xs[k].fFrom.data.toList) xs[k].fTo.data.toList; clear ho hb) | (go_at_call 75; refine (l19Put_ok g cc (setOf (namesN (ownN xs) k)) xs[k].fFrom w1.heap.size _ HO.out (setOf_up (namesN (ownN xs) k)) (by have := setOf_len (namesN (ownN xs) k); omega) HB.out.size).mono ?_; rintro e v1 ⟨⟨g1, c1, rfl, ho⟩, hb⟩; have O1 := hid ho; have B1 := hid (below_up HB.out HB.out.size hb); have U1 := hid (putS_up xs[k].fFrom.data.toList (setOf_up (namesN (ownN xs) k))); have L1 := putS_len (setOf (namesN (ownN xs) k)) xs[k].fFrom.data.toList; have hc1 := (hb.cell (p := ⟨b, o + k * 4 + 1, none⟩) hlt).trans hc1; have hlt1 := Nat.lt_of_lt_of_le hlt hb.size; clear ho hb))
      go_roundw
      case rel => exact ⟨k + 1, g2, c2, by omega, by go_num, by rw [← HE.out], by rw [← HE.out]; exact O2.out, B2.out⟩
      case measure => simp [intOf]; omega
    · have hk2 : k = xs.length := by omega
      subst hk2
      go_wp2_with fail
      go_ret2
      exact RetSC.own HF.out (own_mono HO.out B1.out.size) (B1.out.trans (HB.out.mono B1.out.size))

end Go.Proofs.Ytfagfohcbdlaeaa
