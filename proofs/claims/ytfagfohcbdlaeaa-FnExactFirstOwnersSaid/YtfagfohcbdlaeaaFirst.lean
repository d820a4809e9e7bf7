/- FirstOwners and its reference. -/
import Derived.Test.YtfagfohcbdlaeaaSorted
import Derived.Test.YtfagfohcbdlaeaaPut
import Derived.Test.YtfagfohcbdlaeaaNames
import Derived.Test.YtfagfohcbdlaeaaVDeed
namespace Go.Proofs.Ytfagfohcbdlaeaa
open Go.RowKit
set_option linter.unusedVariables false

/-- one of the first k deeds goes to an owner -/
def backTo (xs : List DDeed) (s : ByteArray) : Nat → Bool
  | 0 => false
  | k + 1 => backTo xs s k || (match xs[k]? with | some x => x.fTo.toList == s.toList | none => false)
theorem backTo_succ {xs : List DDeed} {s : ByteArray} {k : Nat} (h : k < xs.length) : backTo xs s (k + 1) = (backTo xs s k || (xs[k].fTo.toList == s.toList)) := by simp only [backTo, List.getElem?_eq_getElem h]
theorem backTo_yes {xs : List DDeed} {s : ByteArray} {j : Nat} (hj : j < xs.length) (h : (xs[j].fTo.toList == s.toList) = true) : ∀ {k : Nat}, j < k → backTo xs s k = true
  | 0, h0 => absurd h0 (by omega)
  | k + 1, h0 => by
    rcases Nat.lt_or_ge j k with h3 | h3
    · simp only [backTo, backTo_yes hj h h3, Bool.true_or]
    · have : j = k := by omega
      subst this
      rw [backTo_succ hj, h, Bool.or_true]
theorem backTo_no {xs : List DDeed} {s : ByteArray} : ∀ {k : Nat}, k ≤ xs.length → (∀ j (hj : j < xs.length), j < k → (xs[j].fTo.toList == s.toList) = false) → backTo xs s k = false
  | 0, _, _ => rfl
  | k + 1, hk, h => by
    rw [backTo_succ (by omega), backTo_no (by omega) (fun j hj hjk => h j hj (by omega)), h k (by omega) (by omega)]
    rfl
def firstN (xs : List DDeed) (k : Nat) : List Str := match xs[k]? with | some x => if backTo xs x.fFrom xs.length then [] else [x.fFrom.data.toList] | none => []
theorem firstN_yes {xs : List DDeed} {k : Nat} (h : k < xs.length) (hb : backTo xs xs[k].fFrom xs.length = false) : firstN xs k = [xs[k].fFrom.data.toList] := by simp only [firstN, List.getElem?_eq_getElem h, hb]; rfl
theorem firstN_no {xs : List DDeed} {k : Nat} (h : k < xs.length) (hb : backTo xs xs[k].fFrom xs.length = true) : firstN xs k = [] := by simp only [firstN, List.getElem?_eq_getElem h, hb]; rfl
theorem firstN_len (xs : List DDeed) (k : Nat) : (firstN xs k).length ≤ 1 := by
  unfold firstN
  split
  · split <;> simp
  · simp
noncomputable def fFirst (xs : List DDeed) : List Str × Int := if deedsB xs = false then ([], 1) else (setOf (namesN (firstN xs) xs.length), 0)
theorem fFirst_small (xs : List DDeed) : (fFirst xs).1.length ≤ 64 := by
  unfold fFirst
  split
  · simp
  · rename_i h1
    have h := deedsB_iff.1 (by simpa using h1)
    have h2 := setOf_len (namesN (firstN xs) xs.length)
    have h3 := namesN_len (firstN_len xs) xs.length
    show (setOf (namesN (firstN xs) xs.length)).length ≤ 64
    omega

set_option maxHeartbeats 800000 in
set_option maxRecDepth 100000 in
theorem backClo_ok (x : DDeed) (b o : Nat) (s : ByteArray) (w : World) (hlt : b < w.heap.size) (hcell : w.cell? ⟨b, o, none⟩ = some (.string s)) (r : Bool) (hr : (x.fTo.toList == s.toList) = r) :
    Calls Try.prog 143 #[.agg #[.string x.fFrom, .string x.fTo, .int .i64 x.fYear, .int .i64 x.fDoubt], .pointer (some ⟨b, o, none⟩)] w fun e w' => e = .returned (.bool r) ∧ Below w.heap.size w w' := by
  have g1 : (w.alloc (.cells #[.string x.fFrom, .string x.fTo, .int .i64 x.fYear, .int .i64 x.fDoubt] 97)).cell? ⟨b, o, none⟩ = some (.string s) := ((below_alloc w _).cell (p := ⟨b, o, none⟩) hlt).trans hcell
  have HR := hid hr
  clear hr hcell
  go_enter Try.func143, Try.ntmps143
  go_wp2_with fail
  go_ret
  exact ⟨ret_bool (by first | exact HR.out | (have h := HR.out; simpa using h)), below_alloc _ _⟩

set_option maxHeartbeats 1600000 in
set_option maxRecDepth 100000 in
theorem IndexFuncD_ok (A : Option Addr) (cB : Nat) (xs : List DDeed) (b0 o0 : Nat) (s : ByteArray) (w : World) (hA : RowsAt w 4 A (xs.map DDeed.cells)) (hn : xs.length ≤ 1048576) (hlt0 : b0 < w.heap.size) (hcell : w.cell? ⟨b0, o0, none⟩ = some (.string s)) :
    Calls Try.prog 173 #[.slice A xs.length cB, .func (.func 143) #[] #[.pointer (some ⟨b0, o0, none⟩)]] w fun e w' => (∃ r : Int, e = .returned (.int .i64 r) ∧ -1 ≤ r ∧ r ≤ 1048576 ∧ (0 ≤ r ↔ backTo xs s xs.length = true)) ∧ Below w.heap.size w w' := by
  have HA := hid hA
  have HC0 := hid hcell
  clear hA hcell
  go_enter Try.func173, Try.ntmps173
  go_wp2_with fail
  go_loopw [8] (fun i wr => ∃ k : Nat, k ≤ xs.length ∧ i = .int .i64 k ∧ (∀ j (h : j < xs.length), j < k → (xs[j].fTo.toList == s.toList) = false) ∧ Below w.heap.size w wr) (fun i _ => xs.length - (intOf i).toNat)
  case atStart => exact ⟨0, Nat.zero_le _, rfl, fun _ _ h => absurd h (by omega), Below.refl _ _⟩
  case round =>
    obtain ⟨k, hk, rfl, hall, hbel⟩ := hrel
    have HL := hid hall
    have HB := hid hbel
    clear hall hbel
    by_cases hkl : k < xs.length
    · have hne : xs.map DDeed.cells ≠ [] := by intro e; rw [List.map_eq_nil_iff] at e; rw [e] at hkl; exact absurd hkl (by simp)
      obtain ⟨b, o, rfl, hlt, hc⟩ := (HA.out.below HB.out) hne
      have HC := hid hc
      have hc0 : wr.cell? ⟨b, o + k * 4, none⟩ = some (.string xs[k].fFrom) := HC.out k _ (by rw [List.getElem?_map, List.getElem?_eq_getElem hkl]; rfl) 0 _ rfl
      have hc1 : wr.cell? ⟨b, o + k * 4 + 1, none⟩ = some (.string xs[k].fTo) := HC.out k _ (by rw [List.getElem?_map, List.getElem?_eq_getElem hkl]; rfl) 1 _ rfl
      have hc2 : wr.cell? ⟨b, o + k * 4 + 2, none⟩ = some (.int .i64 xs[k].fYear) := HC.out k _ (by rw [List.getElem?_map, List.getElem?_eq_getElem hkl]; rfl) 2 _ rfl
      have hc3 : wr.cell? ⟨b, o + k * 4 + 3, none⟩ = some (.int .i64 xs[k].fDoubt) := HC.out k _ (by rw [List.getElem?_map, List.getElem?_eq_getElem hkl]; rfl) 3 _ rfl
      have q0 : (0 : Int) ≤ (k : Int) := by omega
      have q1 : (k : Int) < xs.length := by omega
      clear hc hne
      have hb2 : b0 < wr.heap.size := Nat.lt_of_lt_of_le hlt0 HB.out.size
      have KC := hid ((HB.out.cell (p := ⟨b0, o0, none⟩) hlt0).trans HC0.out)
      cases d : (xs[k].fTo.toList == s.toList)
      · have HS := hid (show ∀ j (h : j < xs.length), j < k + 1 → (xs[j].fTo.toList == s.toList) = false from fun j h hj => by
          rcases Nat.lt_or_ge j k with h3 | h3
          · exact HL.out j h h3
          · have e : j = k := by omega
            subst e; exact d)
        have D := hid d
        clear d
        go_wp2_with (go_at_call 143; refine (backClo_ok xs[k] b0 o0 s _ hb2 KC.out false D.out).mono ?_; rintro e w5 ⟨rfl, hb5⟩)
        go_roundw
        case rel => exact ⟨k + 1, by omega, by go_num, HS.out, below_trans HB.out hb5⟩
        case measure => simp [intOf]; omega
      · have HP := hid (backTo_yes hkl d hkl)
        have D := hid d
        clear d
        go_wp2_with (go_at_call 143; refine (backClo_ok xs[k] b0 o0 s _ hb2 KC.out true D.out).mono ?_; rintro e w5 ⟨rfl, hb5⟩)
        go_ret
        exact ⟨⟨_, rfl, by omega, by omega, ⟨fun _ => HP.out, fun _ => by omega⟩⟩, below_trans HB.out hb5⟩
    · have HP := hid (backTo_no (Nat.le_refl _) fun j h hj => HL.out j h (by omega))
      go_wp2_with fail
      go_ret
      exact ⟨⟨_, rfl, by omega, by omega, ⟨fun h => absurd h (by omega), fun h => by rw [HP.out] at h; cases h⟩⟩, HB.out⟩

set_option maxHeartbeats 800000 in
theorem comesBack_ok (A : Option Addr) (c : Nat) (xs : List DDeed) (s : ByteArray) (w : World) (hA : RowsAt w 4 A (xs.map DDeed.cells)) (hn : xs.length ≤ 1048576) (z : Bool) (hz : backTo xs s xs.length = z) :
    Calls Try.prog 87 #[.slice A xs.length c, .string s] w fun e w' => e = .returned (.bool z) ∧ Below w.heap.size w w' := by
  have HZ := hid hz
  have HA := hid hA
  clear hz hA
  have hmf : ∀ (fn : Fn) (first cap : Array Value) (w : World), (Instr.makeFunc fn first cap).run Try.prog w = .ok (.func fn first cap) w := fun _ _ _ _ => rfl
  have NC := hid (HasC.new w [.string s] 9)
  have HA2 := hid (HA.out.below (below_alloc w (.cells #[.string s] 9)))
  go_enter Try.func87, Try.ntmps87
  go_wp2_with (first
    | go_at_call 142; go_in
    | (go_at_call 173; refine (IndexFuncD_ok _ _ xs w.heap.size 0 s _ HA2.out hn NC.out.1 (NC.out.2 0 _ rfl)).mono ?_; rintro e w' ⟨⟨r, rfl, r0, r1, r2⟩, hb⟩; have R2 := hid r2; clear r2))
  go_ret
  exact ⟨ret_bool (by have h := R2.out; rw [HZ.out] at h; rw [Bool.eq_iff_iff, ← h]; simp only [decide_eq_true_eq]), (below_alloc w _).trans (hb.mono (by simp))⟩

set_option maxHeartbeats 1600000 in
set_option maxRecDepth 100000 in
theorem implFirst_ok (A : Option Addr) (c : Nat) (xs : List DDeed) (w : World) (hA : RowsAt w 4 A (xs.map DDeed.cells)) (hok : ∀ x ∈ xs, x.ok) (hn : xs.length ≤ 1048576) :
    Calls Try.prog 31 #[.slice A xs.length c] w (RetSC w (fFirst xs)) := by
  have HA := hid hA
  have HK := hid hok
  clear hA hok
  cases c1 : deedsB xs
  · have HF := hid (show fFirst xs = ([], 1) by unfold fFirst; rw [if_pos c1])
    go_enter Try.func31, Try.ntmps31
    go_wp2_with fail
    refine (ValidDeeds_ok A c xs _ HA.out HK.out hn).mono ?_
    rintro e w1 ⟨rfl, hb⟩
    go_wp2_with fail
    go_ret2
    exact RetSC.nil HF.out hb
  have HF := hid (show fFirst xs = (setOf (namesN (firstN xs) xs.length), 0) by unfold fFirst; rw [if_neg (by rw [c1]; exact fun h => by cases h)])
  have HH := hid (deedsB_iff.1 c1)
  have h16 := HH.out.2
  go_enter Try.func31, Try.ntmps31
  go_wp2_with fail
  refine (ValidDeeds_ok A c xs _ HA.out HK.out hn).mono ?_
  rintro e w1 ⟨rfl, hb⟩
  have B1 := hid hb
  have HA := hid (HA.out.below B1.out)
  clear hb
  go_wp2_with fail
  go_loopw [4, 13] (fun v m wr => ∃ (k g cc : Nat), k ≤ xs.length ∧ m = .int .i64 k ∧ v = .slice (some ⟨g, 0, none⟩) (namesN (firstN xs) k).length cc ∧ wr.ownsRow w1.heap.size 9 1 (.slice (some ⟨g, 0, none⟩) (namesN (firstN xs) k).length cc) (namesN (firstN xs) k).length ((namesN (firstN xs) k).map vS) ∧ Below w1.heap.size w1 wr) (fun _ m _ => xs.length - (intOf m).toNat)
  case atStart => exact ⟨0, _, _, Nat.zero_le _, rfl, rfl, World.ownsRow_lit _ _ 0 (Nat.le_refl _) (by unfold maxLen; omega) rfl, below_alloc _ _⟩
  case round =>
    obtain ⟨k, g, cc, hk, rfl, rfl, hown, hbel⟩ := hrel
    have HO := hid hown
    have HB := hid hbel
    have hnl : (namesN (firstN xs) k).length ≤ 1 * k := namesN_len (firstN_len xs) k
    clear hown hbel
    by_cases hkl : k < xs.length
    · have hne : xs.map DDeed.cells ≠ [] := by intro e; rw [List.map_eq_nil_iff] at e; rw [e] at hkl; exact absurd hkl (by simp)
      obtain ⟨b, o, rfl, hlt, hc⟩ := (HA.out.below HB.out) hne
      have HC := hid hc
      have hc0 : wr.cell? ⟨b, o + k * 4, none⟩ = some (.string xs[k].fFrom) := HC.out k _ (by rw [List.getElem?_map, List.getElem?_eq_getElem hkl]; rfl) 0 _ rfl
      have hc1 : wr.cell? ⟨b, o + k * 4 + 1, none⟩ = some (.string xs[k].fTo) := HC.out k _ (by rw [List.getElem?_map, List.getElem?_eq_getElem hkl]; rfl) 1 _ rfl
      have hc2 : wr.cell? ⟨b, o + k * 4 + 2, none⟩ = some (.int .i64 xs[k].fYear) := HC.out k _ (by rw [List.getElem?_map, List.getElem?_eq_getElem hkl]; rfl) 2 _ rfl
      have hc3 : wr.cell? ⟨b, o + k * 4 + 3, none⟩ = some (.int .i64 xs[k].fDoubt) := HC.out k _ (by rw [List.getElem?_map, List.getElem?_eq_getElem hkl]; rfl) 3 _ rfl
      have q0 : (0 : Int) ≤ (k : Int) := by omega
      have q1 : (k : Int) < xs.length := by omega
      clear hc hne
      have NC := hid (HasC.new wr [.string xs[k].fFrom, .string xs[k].fTo, .int .i64 xs[k].fYear, .int .i64 xs[k].fDoubt] 97)
      have n0 := NC.out.2 0 _ rfl
      have OW := hid (HO.out.alloc (.cells #[.string xs[k].fFrom, .string xs[k].fTo, .int .i64 xs[k].fYear, .int .i64 xs[k].fDoubt] 97))
      have HA2 := hid (HA.out.below HB.out)
      cases d : backTo xs xs[k].fFrom xs.length
      · have HE := hid (show (namesN (firstN xs) k).map vS ++ [.string xs[k].fFrom] = (namesN (firstN xs) (k + 1)).map vS by
          rw [namesN, List.map_append, firstN_yes hkl d]
          simp only [List.map_cons, List.map_nil, vS_data])
        have LE := hid (show (namesN (firstN xs) k).length + 1 = (namesN (firstN xs) (k + 1)).length by rw [namesN, List.length_append, firstN_yes hkl d]; rfl)
        have D := hid d
        clear d
        go_wp2_with (first
          | (at_builtin; refine wpList_app (w0 := w1) rfl (.tmp 22) (.tmp 25) 24 rfl w1.heap.size 9 (.string ⟨#[]⟩) 1 16 Try.underlying24 infoStr rfl (by decide) _ _ _ rfl O5.out #[.string xs[k].fFrom] 1 1 rfl rfl (by simp [Value.oneCell']) (by omega) B5.out.size B5.out ?_; intro v1 w6 hown1 hbel1 hz1 _; obtain ⟨g6, c6, rfl, hf6⟩ := own_form hown1 (by omega))
          | (go_at_call 87; refine (comesBack_ok _ _ xs xs[k].fFrom _ (HA2.out.below (below_alloc wr (.cells #[.string xs[k].fFrom, .string xs[k].fTo, .int .i64 xs[k].fYear, .int .i64 xs[k].fDoubt] 97))) hn false D.out).mono ?_; rintro e w5 ⟨rfl, hb5⟩; have kk := (hb5.cell (p := ⟨wr.heap.size, 0, none⟩) NC.out.1).trans (NC.out.2 0 _ rfl); have O5 := hid (own_below OW.out hb5); have B5 := hid (below_trans HB.out (below_chain hb5 (Below.refl _ _)))))
        go_roundw
        case rel => exact ⟨k + 1, g6, c6, by omega, by go_num, by rw [← LE.out], by rw [← HE.out, ← LE.out]; exact hown1, hbel1⟩
        case measure => simp [intOf]; omega
      · have HE := hid (show namesN (firstN xs) k = namesN (firstN xs) (k + 1) by rw [namesN, firstN_no hkl d, List.append_nil])
        have D := hid d
        clear d
        go_wp2_with (go_at_call 87; refine (comesBack_ok _ _ xs xs[k].fFrom _ (HA2.out.below (below_alloc wr (.cells #[.string xs[k].fFrom, .string xs[k].fTo, .int .i64 xs[k].fYear, .int .i64 xs[k].fDoubt] 97))) hn true D.out).mono ?_; rintro e w5 ⟨rfl, hb5⟩; have kk := (hb5.cell (p := ⟨wr.heap.size, 0, none⟩) NC.out.1).trans (NC.out.2 0 _ rfl); have O5 := hid (own_below OW.out hb5); have B5 := hid (below_trans HB.out (below_chain hb5 (Below.refl _ _))))
        go_roundw
        case rel => exact ⟨k + 1, g, cc, by omega, by go_num, by rw [← HE.out], by rw [← HE.out]; exact O5.out, B5.out⟩
        case measure => simp [intOf]; omega
    · have hk2 : k = xs.length := by omega
      subst hk2
      go_wp2_with (go_at_call 78; refine (sortedSet_ok g cc _ w1 _ HO.out HB.out (by omega)).mono ?_; rintro e w7 ⟨rfl, ho7, hb7⟩)
      go_ret2
      exact RetSC.own HF.out (own_mono ho7 B1.out.size) (B1.out.trans (hb7.mono B1.out.size))

set_option maxHeartbeats 1600000 in
set_option maxRecDepth 100000 in
theorem specFirst_ok (A : Option Addr) (c : Nat) (xs : List DDeed) (w : World) (hA : RowsAt w 4 A (xs.map DDeed.cells)) (hok : ∀ x ∈ xs, x.ok) (hn : xs.length ≤ 1048576) :
    Calls Try.prog 30 #[.slice A xs.length c] w (RetSC w (fFirst xs)) := by
  have HA := hid hA
  have HK := hid hok
  clear hA hok
  cases c1 : deedsB xs
  · have HF := hid (show fFirst xs = ([], 1) by unfold fFirst; rw [if_pos c1])
    go_enter Try.func30, Try.ntmps30
    go_wp2_with fail
    refine (l19Ok_ok A c xs _ HA.out HK.out hn).mono ?_
    rintro e w1 ⟨rfl, hb⟩
    go_wp2_with fail
    go_ret2
    exact RetSC.nil HF.out hb
  have HF := hid (show fFirst xs = (setOf (namesN (firstN xs) xs.length), 0) by unfold fFirst; rw [if_neg (by rw [c1]; exact fun h => by cases h)])
  have HH := hid (deedsB_iff.1 c1)
  have h16 := HH.out.2
  go_enter Try.func30, Try.ntmps30
  go_wp2_with fail
  refine (l19Ok_ok A c xs _ HA.out HK.out hn).mono ?_
  rintro e w1 ⟨rfl, hb⟩
  have B1 := hid hb
  have HA := hid (HA.out.below B1.out)
  clear hb
  go_wp2_with fail
  go_loopw [4, 5] (fun v m wr => ∃ (k g cc : Nat), k ≤ xs.length ∧ m = .int .i64 k ∧ v = .slice (some ⟨g, 0, none⟩) (setOf (namesN (firstN xs) k)).length cc ∧ wr.ownsRow w1.heap.size 9 1 (.slice (some ⟨g, 0, none⟩) (setOf (namesN (firstN xs) k)).length cc) (setOf (namesN (firstN xs) k)).length ((setOf (namesN (firstN xs) k)).map vS) ∧ Below w1.heap.size w1 wr) (fun _ m _ => xs.length - (intOf m).toNat)
  case atStart => exact ⟨0, _, _, Nat.zero_le _, rfl, rfl, World.ownsRow_lit _ _ 0 (Nat.le_refl _) (by unfold maxLen; omega) rfl, below_alloc _ _⟩
  case round =>
    obtain ⟨k, g, cc, hk, rfl, rfl, hown, hbel⟩ := hrel
    have HO := hid hown
    have HB := hid hbel
    have hnl : (namesN (firstN xs) k).length ≤ 1 * k := namesN_len (firstN_len xs) k
    have hsl := setOf_len (namesN (firstN xs) k)
    clear hown hbel
    by_cases hkl : k < xs.length
    · have hne : xs.map DDeed.cells ≠ [] := by intro e; rw [List.map_eq_nil_iff] at e; rw [e] at hkl; exact absurd hkl (by simp)
      obtain ⟨b, o, rfl, hlt, hc⟩ := (HA.out.below HB.out) hne
      have HC := hid hc
      have hc0 : wr.cell? ⟨b, o + k * 4, none⟩ = some (.string xs[k].fFrom) := HC.out k _ (by rw [List.getElem?_map, List.getElem?_eq_getElem hkl]; rfl) 0 _ rfl
      have q0 : (0 : Int) ≤ (k : Int) := by omega
      have q1 : (k : Int) < xs.length := by omega
      clear hc hne
      rename World => wo
      go_wp2_with fail
      go_loopw [6, 7] (fun h m ws => ∃ q : Nat, q ≤ xs.length ∧ m = .int .i64 q ∧ h = .bool (backTo xs xs[k].fFrom q) ∧ Below wo.heap.size wo ws) (fun _ m _ => xs.length - (intOf m).toNat)
      case atStart => exact ⟨0, Nat.zero_le _, rfl, rfl, Below.refl _ _⟩
      case round =>
        obtain ⟨q, hq, rfl, rfl, hbel⟩ := hrel
        have HW := hid hbel
        clear hbel
        have f0 : wr.cell? ⟨b, o + k * 4, none⟩ = some (.string xs[k].fFrom) := (HW.out.cell (p := ⟨b, o + k * 4, none⟩) hlt).trans hc0
        by_cases hql : q < xs.length
        · have p0 : (0 : Int) ≤ (q : Int) := by omega
          have p1 : (q : Int) < xs.length := by omega
          have t1 : wr.cell? ⟨b, o + q * 4 + 1, none⟩ = some (.string xs[q].fTo) := (HW.out.cell (p := ⟨b, o + q * 4 + 1, none⟩) hlt).trans (HC.out q _ (by rw [List.getElem?_map, List.getElem?_eq_getElem hql]; rfl) 1 _ rfl)
          have HS := hid (backTo_succ (s := xs[k].fFrom) hql)
          cases d : backTo xs xs[k].fFrom q
          · go_wp2_with fail
            go_quiet (fail)
            go_wp2_with fail
            go_roundw
            case rel => exact ⟨q + 1, by omega, by go_num, by rw [HS.out, d, Bool.false_or], below_drewN' HW.out _⟩
            case measure => simp [intOf]; omega
          · go_wp2_with fail
            go_quiet (fail)
            go_wp2_with fail
            go_roundw
            case rel => exact ⟨q + 1, by omega, by go_num, by rw [HS.out, d, Bool.true_or], below_drewN' HW.out _⟩
            case measure => simp [intOf]; omega
        · have hq2 : q = xs.length := by omega
          subst hq2
          have O5 := hid (own_below HO.out HW.out)
          have B5 := hid (below_up HB.out HB.out.size HW.out)
          cases d : backTo xs xs[k].fFrom xs.length
          · have HE := hid (show putS (setOf (namesN (firstN xs) k)) xs[k].fFrom.data.toList = setOf (namesN (firstN xs) (k + 1)) by
              rw [namesN, firstN_yes hkl d, setOf_snoc])
            go_wp2_with (go_at_call 75; refine (l19Put_ok g cc (setOf (namesN (firstN xs) k)) xs[k].fFrom w1.heap.size _ O5.out (setOf_up (namesN (firstN xs) k)) (by omega) B5.out.size).mono ?_; rintro e v1 ⟨⟨g1, c1, rfl, ho⟩, hb⟩; have O1 := hid ho; have B1 := hid (below_up B5.out B5.out.size hb); clear ho hb)
            go_roundw
            case rel => exact ⟨k + 1, g1, c1, by omega, by go_num, by rw [← HE.out], by rw [← HE.out]; exact O1.out, B1.out⟩
            case measure => simp [intOf]; omega
          · have HE := hid (show setOf (namesN (firstN xs) k) = setOf (namesN (firstN xs) (k + 1)) by
              rw [namesN, firstN_no hkl d, List.append_nil])
            go_wp2_with fail
            go_roundw
            case rel => exact ⟨k + 1, g, cc, by omega, by go_num, by rw [← HE.out], by rw [← HE.out]; exact O5.out, B5.out⟩
            case measure => simp [intOf]; omega
    · have hk2 : k = xs.length := by omega
      subst hk2
      go_wp2_with fail
      go_ret2
      exact RetSC.own HF.out (own_mono HO.out B1.out.size) (B1.out.trans (HB.out.mono B1.out.size))

end Go.Proofs.Ytfagfohcbdlaeaa
