/- The program: papers that clash. -/
import Derived.Test.YtdbjbkdcmhekfaaTruM
import Derived.Test.YtdbjbkdcmhekfaaKeepM
import Derived.Deep.RegionHeld3
namespace Go.Proofs.Ytdbjbkdcmhekfaa
open Go.RowKit
set_option linter.unusedVariables false

theorem keepS {w1 wa wb : World} {Q : World → Prop} (H : ∀ w', Below w1.heap.size w1 w' → (True ∧ Below w1.heap.size w1 w') ∧ Q w') (h : (True ∧ Below w1.heap.size w1 wa) ∧ Q wa) (hx : Below wa.heap.size wa wb) : (True ∧ Below w1.heap.size w1 wb) ∧ Q wb := H _ (h.1.2.trans (hx.mono h.1.2.size))
theorem clashB_yes {a b : DPaper} (h : (a.fMaker.toList == b.fMaker.toList) = false) : clashB a b = true := by unfold clashB; rw [h]; rfl
theorem clashB_no {a b : DPaper} (h : (a.fMaker.toList == b.fMaker.toList) = true) (v : Bool) (hv : v = true ↔ (a.fLate < b.fEarly ∨ b.fLate < a.fEarly)) : v = clashB a b := by
  rw [Bool.eq_iff_iff, hv]
  unfold clashB
  rw [h]
  simp

set_option maxHeartbeats 1600000 in
set_option maxRecDepth 100000 in
theorem clash_ok (a b : DPaper) (w : World) (ha : a.fEarly ≤ a.fLate) (hb : b.fEarly ≤ b.fLate) (r : Bool) (hr : clashB a b = r) :
    Calls Try.prog 174 #[.agg #[.string a.fId, .string a.fMaker, .int .i64 a.fEarly, .int .i64 a.fLate, .int .i64 a.fTrust], .agg #[.string b.fId, .string b.fMaker, .int .i64 b.fEarly, .int .i64 b.fLate, .int .i64 b.fTrust]] w fun e w' => e = .returned (.bool r) ∧ Below w.heap.size w w' := by
  subst hr
  cases d : (a.fMaker.toList == b.fMaker.toList)
  · have HR := hid (clashB_yes d)
    go_enter Try.func174, Try.ntmps174
    go_wp2_with fail
    go_ret
    exact ⟨ret_bool HR.out.symm, (below_alloc _ _).alloc (by simp) _⟩
  · have HR := hid (clashB_no d)
    go_enter Try.func174, Try.ntmps174
    go_wp2_with fail
    all_goals (go_ret; exact ⟨ret_bool (HR.out _ (by simp only [decide_eq_true_eq]; omega)), (below_alloc _ _).alloc (by simp) _⟩)

set_option maxHeartbeats 1600000 in
set_option maxRecDepth 100000 in
theorem clashClo_ok (xs : List DPaper) (A : Option Addr) (c : Nat) (x : DPaper) (i b1 b2 : Nat) (w : World) (hA : RowsAt w 5 A (xs.map DPaper.cells)) (hn : xs.length ≤ 1048576) (hi : i < xs.length) (hlt1 : b1 < w.heap.size) (hlt2 : b2 < w.heap.size) (hc1 : w.cell? ⟨b1, 0, none⟩ = some (.slice A xs.length c)) (hc2 : w.cell? ⟨b2, 0, none⟩ = some (.string x.fId) ∧ w.cell? ⟨b2, 1, none⟩ = some (.string x.fMaker) ∧ w.cell? ⟨b2, 2, none⟩ = some (.int .i64 x.fEarly) ∧ w.cell? ⟨b2, 3, none⟩ = some (.int .i64 x.fLate) ∧ w.cell? ⟨b2, 4, none⟩ = some (.int .i64 x.fTrust)) (hE : ∀ y ∈ xs, y.fEarly ≤ y.fLate) (hx : x.fEarly ≤ x.fLate) (r : Bool) (hr : clashB xs[i] x = r) :
    Calls Try.prog 173 #[.int .i64 i, .pointer (some ⟨b1, 0, none⟩), .pointer (some ⟨b2, 0, none⟩)] w fun e w' => e = .returned (.bool r) ∧ Below w.heap.size w w' := by
  have hne : xs.map DPaper.cells ≠ [] := by intro e; rw [List.map_eq_nil_iff] at e; rw [e] at hi; exact absurd hi (by simp)
  obtain ⟨b, o, rfl, hlt, hc⟩ := hA hne
  have hcl := hc i xs[i].cells (by rw [List.getElem?_map, List.getElem?_eq_getElem hi]; rfl)
  have k0 : w.cell? ⟨b, o + i * 5, none⟩ = some (.string xs[i].fId) := hcl 0 _ rfl
  have k1 : w.cell? ⟨b, o + i * 5 + 1, none⟩ = some (.string xs[i].fMaker) := hcl 1 _ rfl
  have k2 : w.cell? ⟨b, o + i * 5 + 2, none⟩ = some (.int .i64 xs[i].fEarly) := hcl 2 _ rfl
  have k3 : w.cell? ⟨b, o + i * 5 + 3, none⟩ = some (.int .i64 xs[i].fLate) := hcl 3 _ rfl
  have k4 : w.cell? ⟨b, o + i * 5 + 4, none⟩ = some (.int .i64 xs[i].fTrust) := hcl 4 _ rfl
  obtain ⟨m0, m1, m2, m3, m4⟩ := hc2
  have q0 : (0 : Int) ≤ (i : Int) := by omega
  have q1 : (i : Int) < xs.length := by omega
  have HR := hid hr
  have hy := hE _ (List.getElem_mem hi)
  clear hc hcl hA hr hne hE
  have HSx := hid (show ∀ w', Below w.heap.size w w' → (True ∧ Below w.heap.size w w') ∧ w'.cell? ⟨b1, 0, none⟩ = some (.slice (some ⟨b, o, none⟩) xs.length c) ∧ (w'.cell? ⟨b, o + i * 5, none⟩ = some (.string xs[i].fId) ∧ w'.cell? ⟨b, o + i * 5 + 1, none⟩ = some (.string xs[i].fMaker) ∧ w'.cell? ⟨b, o + i * 5 + 2, none⟩ = some (.int .i64 xs[i].fEarly) ∧ w'.cell? ⟨b, o + i * 5 + 3, none⟩ = some (.int .i64 xs[i].fLate) ∧ w'.cell? ⟨b, o + i * 5 + 4, none⟩ = some (.int .i64 xs[i].fTrust)) ∧ w'.cell? ⟨b2, 0, none⟩ = some (.string x.fId) ∧ w'.cell? ⟨b2, 1, none⟩ = some (.string x.fMaker) ∧ w'.cell? ⟨b2, 2, none⟩ = some (.int .i64 x.fEarly) ∧ w'.cell? ⟨b2, 3, none⟩ = some (.int .i64 x.fLate) ∧ w'.cell? ⟨b2, 4, none⟩ = some (.int .i64 x.fTrust) from fun w' hb => ⟨⟨trivial, hb⟩, (hb.cell (p := ⟨b1, 0, none⟩) hlt1).trans hc1, ⟨(hb.cell (p := ⟨b, _, none⟩) hlt).trans k0, (hb.cell (p := ⟨b, _, none⟩) hlt).trans k1, (hb.cell (p := ⟨b, _, none⟩) hlt).trans k2, (hb.cell (p := ⟨b, _, none⟩) hlt).trans k3, (hb.cell (p := ⟨b, _, none⟩) hlt).trans k4⟩, (hb.cell (p := ⟨b2, _, none⟩) hlt2).trans m0, (hb.cell (p := ⟨b2, _, none⟩) hlt2).trans m1, (hb.cell (p := ⟨b2, _, none⟩) hlt2).trans m2, (hb.cell (p := ⟨b2, _, none⟩) hlt2).trans m3, (hb.cell (p := ⟨b2, _, none⟩) hlt2).trans m4⟩)
  go_enter Try.func173, Try.ntmps173
  go_wp2_with fail
  go_region_held3 (fun w' => (True ∧ Below w.heap.size w w') ∧ w'.cell? ⟨b1, 0, none⟩ = some (.slice (some ⟨b, o, none⟩) xs.length c) ∧ (w'.cell? ⟨b, o + i * 5, none⟩ = some (.string xs[i].fId) ∧ w'.cell? ⟨b, o + i * 5 + 1, none⟩ = some (.string xs[i].fMaker) ∧ w'.cell? ⟨b, o + i * 5 + 2, none⟩ = some (.int .i64 xs[i].fEarly) ∧ w'.cell? ⟨b, o + i * 5 + 3, none⟩ = some (.int .i64 xs[i].fLate) ∧ w'.cell? ⟨b, o + i * 5 + 4, none⟩ = some (.int .i64 xs[i].fTrust)) ∧ w'.cell? ⟨b2, 0, none⟩ = some (.string x.fId) ∧ w'.cell? ⟨b2, 1, none⟩ = some (.string x.fMaker) ∧ w'.cell? ⟨b2, 2, none⟩ = some (.int .i64 x.fEarly) ∧ w'.cell? ⟨b2, 3, none⟩ = some (.int .i64 x.fLate) ∧ w'.cell? ⟨b2, 4, none⟩ = some (.int .i64 x.fTrust))
    (first | exact HSx.out _ (Below.refl _ _).drew | exact keepS HSx.out ‹_ ∧ _› ‹Below _ _ _›)
    (first | (go_at_call 174; refine (clash_ok xs[i] x _ hy hx r HR.out).mono ?_; rintro e w2 ⟨rfl, hb2⟩))
  go_wp2_with fail
  go_ret
  obtain ⟨⟨_, hB⟩, _⟩ := ‹(True ∧ _) ∧ _›
  exact ⟨rfl, hB⟩

set_option maxHeartbeats 1600000 in
set_option maxRecDepth 100000 in
theorem IndexFuncC_ok (xs : List DPaper) (A : Option Addr) (c : Nat) (x : DPaper) (t : List Nat) (At : Option Addr) (ct b1 b2 : Nat) (w : World) (hA : RowsAt w 5 A (xs.map DPaper.cells)) (hn : xs.length ≤ 1048576) (hT : IntsAt w At (t.map Int.ofNat)) (ht : ∀ i ∈ t, i < xs.length) (htl : t.length ≤ 1048576) (hlt1 : b1 < w.heap.size) (hlt2 : b2 < w.heap.size) (hc1 : w.cell? ⟨b1, 0, none⟩ = some (.slice A xs.length c)) (hc2 : w.cell? ⟨b2, 0, none⟩ = some (.string x.fId) ∧ w.cell? ⟨b2, 1, none⟩ = some (.string x.fMaker) ∧ w.cell? ⟨b2, 2, none⟩ = some (.int .i64 x.fEarly) ∧ w.cell? ⟨b2, 3, none⟩ = some (.int .i64 x.fLate) ∧ w.cell? ⟨b2, 4, none⟩ = some (.int .i64 x.fTrust)) (hE : ∀ y ∈ xs, y.fEarly ≤ y.fLate) (hx : x.fEarly ≤ x.fLate) :
    Calls Try.prog 193 #[.slice At t.length ct, .func (.func 173) #[] #[.pointer (some ⟨b1, 0, none⟩), .pointer (some ⟨b2, 0, none⟩)]] w fun e w' => (∃ r : Int, e = .returned (.int .i64 r) ∧ -1 ≤ r ∧ r ≤ 1048576 ∧ (0 ≤ r ↔ (t.any fun i => match xs[i]? with | some y => clashB y x | none => false) = true)) ∧ Below w.heap.size w w' := by
  obtain ⟨m0, m1, m2, m3, m4⟩ := hc2
  have HA := hid hA
  have HT := hid hT
  have HI := hid ht
  have HE := hid hE
  have M := hid (show ∀ w', Below w.heap.size w w' → b1 < w'.heap.size ∧ b2 < w'.heap.size ∧ w'.cell? ⟨b1, 0, none⟩ = some (.slice A xs.length c) ∧ w'.cell? ⟨b2, 0, none⟩ = some (.string x.fId) ∧ w'.cell? ⟨b2, 1, none⟩ = some (.string x.fMaker) ∧ w'.cell? ⟨b2, 2, none⟩ = some (.int .i64 x.fEarly) ∧ w'.cell? ⟨b2, 3, none⟩ = some (.int .i64 x.fLate) ∧ w'.cell? ⟨b2, 4, none⟩ = some (.int .i64 x.fTrust) from fun w' hb => ⟨Nat.lt_of_lt_of_le hlt1 hb.size, Nat.lt_of_lt_of_le hlt2 hb.size, (hb.cell (p := ⟨b1, 0, none⟩) hlt1).trans hc1, (hb.cell (p := ⟨b2, _, none⟩) hlt2).trans m0, (hb.cell (p := ⟨b2, _, none⟩) hlt2).trans m1, (hb.cell (p := ⟨b2, _, none⟩) hlt2).trans m2, (hb.cell (p := ⟨b2, _, none⟩) hlt2).trans m3, (hb.cell (p := ⟨b2, _, none⟩) hlt2).trans m4⟩)
  clear hA hT ht hE m0 m1 m2 m3 m4 hc1
  go_enter Try.func193, Try.ntmps193
  go_wp2_with fail
  go_loopw [8] (fun i wr => ∃ k : Nat, k ≤ t.length ∧ i = .int .i64 k ∧ (∀ j (h : j < t.length), j < k → (match xs[t[j]]? with | some y => clashB y x | none => false) = false) ∧ Below w.heap.size w wr) (fun i _ => t.length - (intOf i).toNat)
  case atStart => exact ⟨0, Nat.zero_le _, rfl, fun _ _ h => absurd h (by omega), Below.refl _ _⟩
  case round =>
    obtain ⟨k, hk, rfl, hall, hbel⟩ := hrel
    have HL := hid hall
    have HB := hid hbel
    clear hall hbel
    by_cases hkl : k < t.length
    · have hkm : k < (t.map Int.ofNat).length := by simpa using hkl
      obtain ⟨b, o, rfl, hlt, hc⟩ := (HT.out.below HB.out) (by intro e; rw [e] at hkm; exact absurd hkm (by simp))
      have hc0 : wr.cell? ⟨b, o + k, none⟩ = some (.int .i64 (t[k] : Int)) := hc k _ (by rw [List.getElem?_map, List.getElem?_eq_getElem hkl]; rfl)
      have hti := HI.out _ (List.getElem_mem hkl)
      have q0 : (0 : Int) ≤ (k : Int) := by omega
      have q1 : (k : Int) < t.length := by omega
      clear hc
      obtain ⟨n1, n2, n3, n4⟩ := M.out _ HB.out
      have N3 := hid n3
      have N4 := hid n4
      clear n3 n4
      cases d : clashB xs[t[k]] x
      · have HS := hid (show ∀ j (h : j < t.length), j < k + 1 → (match xs[t[j]]? with | some y => clashB y x | none => false) = false from fun j h hj => by
          rcases Nat.lt_or_ge j k with h3 | h3
          · exact HL.out j h h3
          · have e : j = k := by omega
            subst e
            rw [List.getElem?_eq_getElem hti]
            exact d)
        have D := hid d
        clear d
        go_wp2_with (go_at_call 173; refine (clashClo_ok xs A c x t[k] b1 b2 _ (HA.out.below HB.out) hn hti n1 n2 N3.out N4.out HE.out hx false D.out).mono ?_; rintro e w5 ⟨rfl, hb5⟩)
        go_roundw
        case rel => exact ⟨k + 1, by omega, by go_num, HS.out, below_trans HB.out hb5⟩
        case measure => simp [intOf]; omega
      · have HP := hid (show (t.any fun i => match xs[i]? with | some y => clashB y x | none => false) = true from List.any_eq_true.2 ⟨t[k], List.getElem_mem hkl, by rw [List.getElem?_eq_getElem hti]; exact d⟩)
        have D := hid d
        clear d
        go_wp2_with (go_at_call 173; refine (clashClo_ok xs A c x t[k] b1 b2 _ (HA.out.below HB.out) hn hti n1 n2 N3.out N4.out HE.out hx true D.out).mono ?_; rintro e w5 ⟨rfl, hb5⟩)
        go_ret
        exact ⟨⟨_, rfl, by omega, by omega, ⟨fun _ => HP.out, fun _ => by omega⟩⟩, below_trans HB.out hb5⟩
    · have HP := hid (show (t.any fun i => match xs[i]? with | some y => clashB y x | none => false) = false from List.any_eq_false.2 fun i hi => by
        obtain ⟨j, hj, rfl⟩ := List.mem_iff_getElem.1 hi
        rw [HL.out j hj (by omega)]
        simp)
      go_wp2_with fail
      go_ret
      exact ⟨⟨_, rfl, by omega, by omega, ⟨fun h => absurd h (by omega), fun h => by rw [HP.out] at h; cases h⟩⟩, HB.out⟩

set_option maxHeartbeats 1600000 in
set_option maxRecDepth 100000 in
theorem clashesWith_ok (xs : List DPaper) (A : Option Addr) (c : Nat) (x : DPaper) (t : List Nat) (At : Option Addr) (ct : Nat) (w : World) (hA : RowsAt w 5 A (xs.map DPaper.cells)) (hn : xs.length ≤ 1048576) (hT : IntsAt w At (t.map Int.ofNat)) (ht : ∀ i ∈ t, i < xs.length) (htl : t.length ≤ 1048576) (hE : ∀ y ∈ xs, y.fEarly ≤ y.fLate) (hx : x.fEarly ≤ x.fLate) (z : Bool) (hz : (t.any fun i => match xs[i]? with | some y => clashB y x | none => false) = z) :
    Calls Try.prog 138 #[.slice A xs.length c, .slice At t.length ct, .agg #[.string x.fId, .string x.fMaker, .int .i64 x.fEarly, .int .i64 x.fLate, .int .i64 x.fTrust]] w fun e w' => e = .returned (.bool z) ∧ Below w.heap.size w w' := by
  have HZ := hid hz
  have HA := hid hA
  have HT := hid hT
  have HI := hid ht
  have HE := hid hE
  clear hz hA hT ht hE
  have hmf : ∀ (fn : Fn) (first cap : Array Value) (w : World), (Instr.makeFunc fn first cap).run Try.prog w = .ok (.func fn first cap) w := fun _ _ _ _ => rfl
  obtain ⟨W2, hW2⟩ : ∃ W2, W2 = (w.alloc (.cells #[.slice A xs.length c] 27)).alloc (.cells #[.string x.fId, .string x.fMaker, .int .i64 x.fEarly, .int .i64 x.fLate, .int .i64 x.fTrust] 101) := ⟨_, rfl⟩
  have B2 := hid (show Below w.heap.size w W2 by rw [hW2]; exact (below_alloc _ _).alloc (by simp) _)
  have N1 := hid (show HasC W2 w.heap.size [.slice A xs.length c] by rw [hW2]; exact (HasC.new w [.slice A xs.length c] 27).below (below_alloc _ _))
  have N2 := hid (show HasC W2 (w.heap.size + 1) [.string x.fId, .string x.fMaker, .int .i64 x.fEarly, .int .i64 x.fLate, .int .i64 x.fTrust] by rw [hW2]; have h := HasC.new (w.alloc (.cells #[.slice A xs.length c] 27)) [.string x.fId, .string x.fMaker, .int .i64 x.fEarly, .int .i64 x.fLate, .int .i64 x.fTrust] 101; simpa using h)
  have HW := hid hW2
  clear hW2
  go_enter Try.func138, Try.ntmps138
  go_wp2_with (first
    | go_at_call 172; go_in
    | (go_at_call 193; rw [← HW.out]; refine (IndexFuncC_ok xs A c x t At ct w.heap.size (w.heap.size + 1) _ (HA.out.below B2.out) hn (HT.out.below B2.out) HI.out htl N1.out.1 N2.out.1 (N1.out.2 0 _ rfl) ⟨N2.out.2 0 _ rfl, N2.out.2 1 _ rfl, N2.out.2 2 _ rfl, N2.out.2 3 _ rfl, N2.out.2 4 _ rfl⟩ HE.out hx).mono ?_; rintro e w' ⟨⟨r, rfl, r0, r1, r2⟩, hb⟩; have R2 := hid r2; clear r2))
  go_ret
  exact ⟨ret_bool (by have h := R2.out; rw [HZ.out] at h; rw [Bool.eq_iff_iff, ← h]; simp only [decide_eq_true_eq]), below_trans B2.out hb⟩
end Go.Proofs.Ytdbjbkdcmhekfaa
