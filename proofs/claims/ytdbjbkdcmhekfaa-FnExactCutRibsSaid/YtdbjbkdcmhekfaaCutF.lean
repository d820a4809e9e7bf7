/- CutRibs and its reference. -/
import Derived.Test.YtdbjbkdcmhekfaaCutS
import Derived.Test.YtdbjbkdcmhekfaaCutI
import Derived.Test.YtdbjbkdcmhekfaaRetIIC
import Derived.Test.YtdbjbkdcmhekfaaRange
import Derived.Deep.LoopGhost
namespace Go.Proofs.Ytdbjbkdcmhekfaa
open Go.RowKit
set_option linter.unusedVariables false

def longTo (xs : List DRib) (strip : Int) (k : Nat) : Prop := ∀ j (h : j < xs.length), j < k → ¬ strip < xs[j].fLength
theorem long_no {xs : List DRib} {strip : Int} (h : longTo xs strip xs.length) : (lens xs).any (fun n => decide (strip < n)) = false := by
  rw [List.any_eq_false]
  intro n hn
  unfold lens at hn
  obtain ⟨x, hx, rfl⟩ := List.mem_map.1 hn
  obtain ⟨j, hj, rfl⟩ := List.getElem_of_mem hx
  simpa using h j hj hj
theorem long_yes {xs : List DRib} {strip : Int} {k : Nat} (hk : k < xs.length) (h : strip < xs[k].fLength) : (lens xs).any (fun n => decide (strip < n)) = true := by
  rw [List.any_eq_true]
  exact ⟨xs[k].fLength, List.mem_map.2 ⟨xs[k], List.getElem_mem hk, rfl⟩, by simpa using h⟩
theorem longTo.succ {xs : List DRib} {strip : Int} {k : Nat} (h : longTo xs strip k) (hk : k < xs.length) (h1 : ¬ strip < xs[k].fLength) : longTo xs strip (k + 1) := by
  intro j hj hjk
  rcases Nat.lt_or_ge j k with h3 | h3
  · exact h j hj h3
  · have e : j = k := by omega
    subst e; exact h1
theorem isStrip_ok (s a : Int) (w : World) : Calls Try.prog 83 #[.int .i64 s, .int .i64 a] w fun e w' => e = .returned (.bool (inB s 1 100000 && inB a 0 100)) ∧ w = w' := by
  cases c1 : inB s 1 100000
  · go_enter Try.func83, Try.ntmps83
    go_wp2_with (go_at_call 73; refine (within_ok _ _ _ _).mono ?_; rintro e w' ⟨rfl, rfl⟩)
    go_ret
    exact ⟨rfl, rfl⟩
  · cases c2 : inB a 0 100
    · go_enter Try.func83, Try.ntmps83
      go_wp2_with (go_at_call 73; refine (within_ok _ _ _ _).mono ?_; rintro e w' ⟨rfl, rfl⟩)
      go_ret
      exact ⟨rfl, rfl⟩
    · go_enter Try.func83, Try.ntmps83
      go_wp2_with (go_at_call 73; refine (within_ok _ _ _ _).mono ?_; rintro e w' ⟨rfl, rfl⟩)
      go_ret
      exact ⟨rfl, rfl⟩
set_option maxHeartbeats 1600000 in
set_option maxRecDepth 100000 in
theorem tooLong_ok (xs : List DRib) (A : Option Addr) (c b : Nat) (strip : Int) (w : World) (hA : RowsAt w 3 A (xs.map DRib.cells)) (hn : xs.length ≤ 1048576) (hb : b < w.heap.size) (hc0 : w.cell? ⟨b, 0, none⟩ = some (.slice A xs.length c)) (hc1 : w.cell? ⟨b, 1, none⟩ = some (.int .i64 strip)) :
    Calls Try.prog 84 #[.pointer (some ⟨b, 0, none⟩)] w fun e w' => e = .returned (.bool ((lens xs).any (fun n => decide (strip < n)))) ∧ Below w.heap.size w w' := by
  have HA := hid hA
  have HC1 := hid hc1
  clear hA hc1
  go_enter Try.func84, Try.ntmps84
  go_wp2_with fail
  clear hc0
  go_loopw [10] (fun i wr => ∃ k : Nat, k ≤ xs.length ∧ i = .int .i64 k ∧ longTo xs strip k ∧ Below w.heap.size w wr) (fun i _ => xs.length - (intOf i).toNat)
  case atStart => exact ⟨0, Nat.zero_le _, rfl, fun j hj h => absurd h (by omega), Below.refl _ _⟩
  case round =>
    obtain ⟨k, hk, rfl, hall, hbel⟩ := hrel
    have HL := hid hall
    have HB := hid hbel
    clear hall
    by_cases hkl : k < xs.length
    · obtain ⟨ab, ao, rfl, hlt, hc⟩ := (HA.out.below hbel) (by intro e; rw [List.map_eq_nil_iff] at e; rw [e] at hkl; exact absurd hkl (by simp))
      have x0 : wr.cell? ⟨ab, ao + k * 3, none⟩ = some (.string xs[k].fId) := hc k _ (by rw [List.getElem?_map, List.getElem?_eq_getElem hkl]; rfl) 0 _ rfl
      have x1 : wr.cell? ⟨ab, ao + k * 3 + 1, none⟩ = some (.int .i64 xs[k].fLength) := hc k _ (by rw [List.getElem?_map, List.getElem?_eq_getElem hkl]; rfl) 1 _ rfl
      have x2 : wr.cell? ⟨ab, ao + k * 3 + 2, none⟩ = some (.int .i64 xs[k].fHeight) := hc k _ (by rw [List.getElem?_map, List.getElem?_eq_getElem hkl]; rfl) 2 _ rfl
      have q0 : (0 : Int) ≤ (k : Int) := by omega
      have q1 : (k : Int) < xs.length := by omega
      have BA := hid (below_trans HB.out (below_alloc wr (.cells #[.string xs[k].fId, .int .i64 xs[k].fLength, .int .i64 xs[k].fHeight] 117)))
      have XA := hid (HasC.new wr [.string xs[k].fId, .int .i64 xs[k].fLength, .int .i64 xs[k].fHeight] 117)
      clear hc hbel
      go_upto_region 4 with fail
      generalize wr.alloc (.cells #[.string xs[k].fId, .int .i64 xs[k].fLength, .int .i64 xs[k].fHeight] 117) = W at BA XA ⊢
      have y1 := XA.out.2 1 _ rfl
      have s1 := (BA.out.cell (p := ⟨b, 1, none⟩) hb).trans HC1.out
      clear x0 x1 x2
      by_cases hlong : strip < xs[k].fLength
      · have HN := hid (long_yes hkl hlong)
        go_quiet (fail)
        go_wp2_with fail
        go_ret
        exact ⟨ret_bool HN.out.symm, below_drewN' BA.out _⟩
      · have HN := hid (HL.out.succ hkl hlong)
        go_quiet (fail)
        go_wp2_with fail
        go_roundw
        case rel => exact ⟨k + 1, by omega, by go_num, HN.out, below_drewN' BA.out _⟩
        case measure => simp [intOf]; omega
    · have hk2 : k = xs.length := by omega
      subst hk2
      have HN := hid (long_no HL.out)
      go_wp2_with fail
      go_ret
      exact ⟨ret_bool HN.out.symm, hbel⟩
theorem l06Short_ok (xs : List DRib) (A : Option Addr) (c : Nat) (strip : Int) (w : World) (hA : RowsAt w 3 A (xs.map DRib.cells)) (hn : xs.length ≤ 1048576) (r : Int) (hr : (if (lens xs).any (fun n => decide (strip < n)) = true then (6 : Int) else 0) = r) :
    Calls Try.prog 79 #[(.slice A xs.length c), .int .i64 strip] w fun e w' => e = .returned (.int .i64 r) ∧ w = w' := by
  have HA := hid hA
  have HR := hid hr
  clear hA hr
  go_enter Try.func79, Try.ntmps79
  go_wp2_with fail
  go_loop [5] (fun i => ∃ k : Nat, k ≤ xs.length ∧ i = .int .i64 k ∧ longTo xs strip k) (fun i => xs.length - (intOf i).toNat)
  case atStart => exact ⟨0, Nat.zero_le _, rfl, fun j hj h => absurd h (by omega)⟩
  case round =>
    obtain ⟨k, hk, rfl, hall⟩ := hrel
    have HL := hid hall
    clear hall
    by_cases hkl : k < xs.length
    · obtain ⟨ab, ao, rfl, hlt, hc⟩ := HA.out (by intro e; rw [List.map_eq_nil_iff] at e; rw [e] at hkl; exact absurd hkl (by simp))
      have x1 : w.cell? ⟨ab, ao + k * 3 + 1, none⟩ = some (.int .i64 xs[k].fLength) := hc k _ (by rw [List.getElem?_map, List.getElem?_eq_getElem hkl]; rfl) 1 _ rfl
      have q0 : (0 : Int) ≤ (k : Int) := by omega
      have q1 : (k : Int) < xs.length := by omega
      clear hc
      by_cases hlong : strip < xs[k].fLength
      · have HN := hid (show 6 = r by rw [← HR.out, if_pos (long_yes hkl hlong)])
        go_wp2_with fail
        go_ret
        exact ⟨ret_int HN.out, rfl⟩
      · have HN := hid (HL.out.succ hkl hlong)
        go_wp2_with fail
        go_round
        case rel => exact ⟨k + 1, by omega, by go_num, HN.out⟩
        case measure => simp [intOf]; omega
    · have hk2 : k = xs.length := by omega
      subst hk2
      have HN := hid (show 0 = r by rw [← HR.out, long_no HL.out]; rfl)
      go_wp2_with fail
      go_ret
      exact ⟨ret_int HN.out, rfl⟩
theorem l06Ask_ok (xs : List DRib) (A : Option Addr) (c : Nat) (strip saw : Int) (w : World) (hA : RowsAt w 3 A (xs.map DRib.cells)) (hok : ∀ x ∈ xs, x.ok) (hn : xs.length ≤ 1048576) (r : Int) (hr : (if ribsB xs = false then (1 : Int) else if inB strip 1 100000 = false ∨ inB saw 0 100 = false then 2 else 0) = r) :
    Calls Try.prog 78 #[(.slice A xs.length c), .int .i64 strip, .int .i64 saw] w fun e w' => e = .returned (.int .i64 r) ∧ Below w.heap.size w w' := by
  have HA := hid hA
  have HK := hid hok
  have HR := hid hr
  clear hA hok hr
  cases c1 : ribsB xs
  · have HE := hid (show (1 : Int) = r by rw [← HR.out, if_pos c1])
    go_enter Try.func78, Try.ntmps78
    go_wp2_with fail
    refine (l06Ok_ok A c xs _ HA.out HK.out hn).mono ?_
    rintro e w1 ⟨rfl, hb1⟩
    have B1 := hid hb1
    clear hb1
    rw [c1]
    go_wp2_with fail
    go_ret
    exact ⟨ret_int HE.out, B1.out⟩
  · cases c2 : inB strip 1 100000
    · have HE := hid (show (2 : Int) = r by rw [← HR.out, c1, c2]; rfl)
      go_enter Try.func78, Try.ntmps78
      go_wp2_with fail
      refine (l06Ok_ok A c xs _ HA.out HK.out hn).mono ?_
      rintro e w1 ⟨rfl, hb1⟩
      have B1 := hid hb1
      clear hb1
      rw [c1]
      go_wp2_with (go_at_call 69; refine (l00In_ok _ _ _ _).mono ?_; rintro e w' ⟨rfl, rfl⟩)
      go_ret
      exact ⟨ret_int HE.out, B1.out⟩
    · cases c3 : inB saw 0 100
      · have HE := hid (show (2 : Int) = r by rw [← HR.out, c1, c2, c3]; rfl)
        go_enter Try.func78, Try.ntmps78
        go_wp2_with fail
        refine (l06Ok_ok A c xs _ HA.out HK.out hn).mono ?_
        rintro e w1 ⟨rfl, hb1⟩
        have B1 := hid hb1
        clear hb1
        rw [c1]
        go_wp2_with (go_at_call 69; refine (l00In_ok _ _ _ _).mono ?_; rintro e w' ⟨rfl, rfl⟩)
        go_ret
        exact ⟨ret_int HE.out, B1.out⟩
      · have HE := hid (show (0 : Int) = r by rw [← HR.out, c1, c2, c3]; rfl)
        go_enter Try.func78, Try.ntmps78
        go_wp2_with fail
        refine (l06Ok_ok A c xs _ HA.out HK.out hn).mono ?_
        rintro e w1 ⟨rfl, hb1⟩
        have B1 := hid hb1
        clear hb1
        rw [c1]
        go_wp2_with (go_at_call 69; refine (l00In_ok _ _ _ _).mono ?_; rintro e w' ⟨rfl, rfl⟩)
        go_ret
        exact ⟨ret_int HE.out, B1.out⟩
theorem ribsB_bd {xs : List DRib} (h : ribsB xs = true) : xs.length ≤ 8 ∧ ∀ x ∈ xs, 1 ≤ x.fLength ∧ x.fLength ≤ 10000 := by
  have h2 := ribsB_iff.1 h
  refine ⟨h2.2, fun x hx => ?_⟩
  obtain ⟨j, hj, rfl⟩ := List.getElem_of_mem hx
  have h3 := (h2.1 j hj hj).1
  simp only [ribD, ribB, Bool.and_eq_true, inB_iff] at h3
  exact h3.2.1
theorem CutAt.reset {b : Nat} {LA : Value} {strip saw : Int} {fr : List Int} {t : List Nat} {left most : Int} {w : World} (h : CutAt b LA strip saw fr t left most w) :
    (CutAt b LA strip saw [] [] left most ((w.setCell ⟨b, 3, none⟩ (.slice none 0 0)).setCell ⟨b, 4, none⟩ (.slice none 0 0)) ∧ Below b w ((w.setCell ⟨b, 3, none⟩ (.slice none 0 0)).setCell ⟨b, 4, none⟩ (.slice none 0 0))) ∧ ∀ i v, i < 7 → (∃ cs : List Value, cs[i]? = some v ∧ w.ownsRow b 121 7 (.slice (some ⟨b, 0, none⟩) 1 1) 1 cs) → w.cell? ⟨b, i, none⟩ = some v := by
  obtain ⟨Af, cf, At, ct, ho, hf, ht, hap⟩ := h
  exact ⟨⟨⟨none, 0, none, 0, own_setCells [.slice none 0 0] (p := 4) (own_setCells [.slice none 0 0] (p := 3) ho), World.ownsRow_nil _ _ _ _, World.ownsRow_nil _ _ _ _, .inl rfl⟩, ((Below.refl b w).setCell (p := ⟨b, 3, none⟩) (Nat.le_refl _) _).setCell (p := ⟨b, 4, none⟩) (Nat.le_refl _) _⟩, fun i v hi ⟨cs, h1, h2⟩ => (h2.cellAt i (by omega)).trans h1⟩
theorem CutAt.setMost {b : Nat} {LA : Value} {strip saw : Int} {fr : List Int} {t : List Nat} {left most : Int} {w : World} (h : CutAt b LA strip saw fr t left most w) (m2 : Int) : CutAt b LA strip saw fr t left m2 (w.setCell ⟨b, 6, none⟩ (.int .i64 m2)) ∧ Below b w (w.setCell ⟨b, 6, none⟩ (.int .i64 m2)) := by
  obtain ⟨Af, cf, At, ct, ho, hf, ht, hap⟩ := h
  exact ⟨⟨Af, cf, At, ct, own_setCells [.int .i64 m2] (p := 6) ho, own_apart hf (by simp) _, own_apart ht (by simp) _, hap⟩, (Below.refl b w).setCell (p := ⟨b, 6, none⟩) (Nat.le_refl _) _⟩
theorem topC_full {ls : List Int} {strip saw : Int} {n k l : Nat} (h : cutS ls strip saw k ls.length [] [] l = .full) : topC ls strip saw (n + 1) k l = none := by rw [topC, h]
theorem topC_solved {ls : List Int} {strip saw : Int} {n k l : Nat} {t : List Nat} (h : cutS ls strip saw k ls.length [] [] l = .solved t) : topC ls strip saw (n + 1) k l = some (t, k) := by rw [topC, h]
theorem topC_fail {ls : List Int} {strip saw : Int} {n k l l2 : Nat} (h : cutS ls strip saw k ls.length [] [] l = .fail l2) : topC ls strip saw (n + 1) k l = topC ls strip saw n (k + 1) l2 := by rw [topC, h]
theorem lens_length (xs : List DRib) : (lens xs).length = xs.length := by simp [lens]
noncomputable def fCutT (xs : List DRib) (strip saw bud : Int) : List Int × Int × Int := match topC (lens xs) strip saw 9 0 bud.toNat with
  | none => ([], 0, 5)
  | some (t, k) => (intsN t, (k : Int), 0)

set_option maxHeartbeats 3200000 in
set_option maxRecDepth 100000 in
theorem implCut_ok (A : Option Addr) (c : Nat) (xs : List DRib) (strip saw bud : Int) (w : World) (hA : RowsAt w 3 A (xs.map DRib.cells)) (hok : ∀ x ∈ xs, x.ok) (hn : xs.length ≤ 1048576) :
    Calls Try.prog 21 #[(.slice A xs.length c), .int .i64 strip, .int .i64 saw, .int .i64 bud] w (RetIIC w (fCut xs strip saw bud)) := by
  have HA := hid hA
  have HK := hid hok
  have BX := hid (below_alloc w (.cells #[.slice A xs.length c, .int .i64 strip, .int .i64 saw, .slice none 0 0, .slice none 0 0, .int .i64 bud, .int .i64 0] 121))
  have HO := hid (World.ownsRow_lit (e := 121) (size := 7) w #[.slice A xs.length c, .int .i64 strip, .int .i64 saw, .slice none 0 0, .slice none 0 0, .int .i64 bud, .int .i64 0] 1 (Nat.le_refl _) (by unfold maxLen; omega) rfl)
  clear hA hok
  cases c1 : ribsB xs
  · have HF := hid (show fCut xs strip saw bud = ([], 0, 1) by unfold fCut; rw [if_pos c1])
    go_enter Try.func21, Try.ntmps21
    go_wp2_with fail
    refine (ValidRibs_ok A c xs _ (HA.out.below (below_alloc _ _)) HK.out hn).mono ?_
    rintro e w1 ⟨rfl, hb1⟩
    have B1 := hid (below_trans BX.out hb1)
    have O1 := hid (own_below HO.out hb1)
    clear hb1
    rw [c1]
    go_wp2_with fail
    go_ret3
    exact RetIIC.nil HF.out B1.out
  cases c2 : inB strip 1 100000
  · have HF := hid (show fCut xs strip saw bud = ([], 0, 2) by unfold fCut; rw [if_neg (by rw [c1]; simp), if_pos (.inl c2)])
    go_enter Try.func21, Try.ntmps21
    go_wp2_with fail
    refine (ValidRibs_ok A c xs _ (HA.out.below (below_alloc _ _)) HK.out hn).mono ?_
    rintro e w1 ⟨rfl, hb1⟩
    have B1 := hid (below_trans BX.out hb1)
    have O1 := hid (own_below HO.out hb1)
    clear hb1
    rw [c1]
    go_wp2_with (first | (go_at_call 83; refine (isStrip_ok _ _ _).mono ?_; rintro e w' ⟨rfl, rfl⟩; rw [c2]) | (go_at_call 73; refine (within_ok _ _ _ _).mono ?_; rintro e w' ⟨rfl, rfl⟩))
    go_ret3
    exact RetIIC.nil HF.out B1.out
  cases c3 : inB saw 0 100
  · have HF := hid (show fCut xs strip saw bud = ([], 0, 2) by unfold fCut; rw [if_neg (by rw [c1]; simp), if_pos (.inr (.inl c3))])
    go_enter Try.func21, Try.ntmps21
    go_wp2_with fail
    refine (ValidRibs_ok A c xs _ (HA.out.below (below_alloc _ _)) HK.out hn).mono ?_
    rintro e w1 ⟨rfl, hb1⟩
    have B1 := hid (below_trans BX.out hb1)
    have O1 := hid (own_below HO.out hb1)
    clear hb1
    rw [c1]
    go_wp2_with (first | (go_at_call 83; refine (isStrip_ok _ _ _).mono ?_; rintro e w' ⟨rfl, rfl⟩; rw [c2, c3]) | (go_at_call 73; refine (within_ok _ _ _ _).mono ?_; rintro e w' ⟨rfl, rfl⟩))
    go_ret3
    exact RetIIC.nil HF.out B1.out
  cases c4 : inB bud 1 20000
  · have HF := hid (show fCut xs strip saw bud = ([], 0, 2) by unfold fCut; rw [if_neg (by rw [c1]; simp), if_pos (.inr (.inr c4))])
    go_enter Try.func21, Try.ntmps21
    go_wp2_with fail
    refine (ValidRibs_ok A c xs _ (HA.out.below (below_alloc _ _)) HK.out hn).mono ?_
    rintro e w1 ⟨rfl, hb1⟩
    have B1 := hid (below_trans BX.out hb1)
    have O1 := hid (own_below HO.out hb1)
    clear hb1
    rw [c1]
    go_wp2_with (first | (go_at_call 83; refine (isStrip_ok _ _ _).mono ?_; rintro e w' ⟨rfl, rfl⟩; rw [c2, c3]) | (go_at_call 73; refine (within_ok _ _ _ _).mono ?_; rintro e w' ⟨rfl, rfl⟩))
    go_ret3
    exact RetIIC.nil HF.out B1.out
  have HV := hid (show ¬ (inB strip 1 100000 = false ∨ inB saw 0 100 = false ∨ inB bud 1 20000 = false) by rw [c2, c3, c4]; simp)
  cases c5 : (lens xs).any (fun n => decide (strip < n))
  rotate_left
  · have HF := hid (show fCut xs strip saw bud = ([], 0, 6) by unfold fCut; rw [if_neg (by rw [c1]; simp), if_neg HV.out, if_pos c5])
    go_enter Try.func21, Try.ntmps21
    go_wp2_with fail
    refine (ValidRibs_ok A c xs _ (HA.out.below (below_alloc _ _)) HK.out hn).mono ?_
    rintro e w1 ⟨rfl, hb1⟩
    have B1 := hid (below_trans BX.out hb1)
    have O1 := hid (own_below HO.out hb1)
    clear hb1
    rw [c1]
    have g0 := O1.out.cellAt 0 (by omega)
    have g1 := O1.out.cellAt 1 (by omega)
    have hb1 := (O1.out.lt _ rfl).2
    go_wp2_with (first | (go_at_call 83; refine (isStrip_ok _ _ _).mono ?_; rintro e w' ⟨rfl, rfl⟩; rw [c2, c3]) | (go_at_call 73; refine (within_ok _ _ _ _).mono ?_; rintro e w' ⟨rfl, rfl⟩))
    refine (tooLong_ok xs A c w.heap.size strip w1 (HA.out.below B1.out) hn hb1 g0 g1).mono ?_
    rintro e w2 ⟨rfl, hb2⟩
    have B2 := hid (below_trans B1.out hb2)
    clear hb2 g0 g1
    rw [c5]
    go_wp2_with fail
    go_ret3
    exact RetIIC.nil HF.out B2.out
  have HF := hid (show fCut xs strip saw bud = fCutT xs strip saw bud by unfold fCut fCutT; rw [if_neg (by rw [c1]; simp), if_neg HV.out, if_neg (by rw [c5]; simp)]; rfl)
  have hbd := inB_iff.1 c4
  have hsd := inB_iff.1 c2
  have had := inB_iff.1 c3
  obtain ⟨hl8, hP⟩ := ribsB_bd c1
  have HP := hid hP
  clear hP
  have HBN := hid (show ((bud.toNat : Nat) : Int) = bud by omega)
  go_enter Try.func21, Try.ntmps21
  go_wp2_with fail
  refine (ValidRibs_ok A c xs _ (HA.out.below (below_alloc _ _)) HK.out hn).mono ?_
  rintro e w1 ⟨rfl, hb1⟩
  have B1 := hid (below_trans BX.out hb1)
  have O1 := hid (own_below HO.out hb1)
  clear hb1
  rw [c1]
  have g0 := O1.out.cellAt 0 (by omega)
  have g1 := O1.out.cellAt 1 (by omega)
  have hb1 := (O1.out.lt _ rfl).2
  go_wp2_with (first | (go_at_call 83; refine (isStrip_ok _ _ _).mono ?_; rintro e w' ⟨rfl, rfl⟩; rw [c2, c3]) | (go_at_call 73; refine (within_ok _ _ _ _).mono ?_; rintro e w' ⟨rfl, rfl⟩))
  refine (tooLong_ok xs A c w.heap.size strip w1 (HA.out.below B1.out) hn hb1 g0 g1).mono ?_
  rintro e w2 ⟨rfl, hb2⟩
  have B2 := hid (below_trans B1.out hb2)
  have O2 := hid (own_below O1.out hb2)
  clear hb2 g0 g1
  rw [c5]
  have g6 := O2.out.cellAt 6 (by omega)
  have i6 := O2.out.frozenAt 6
  have S3 := hid (show CutAt w.heap.size (.slice A xs.length c) strip saw [] [] ((bud.toNat : Nat) : Int) ((0 : Nat) : Int) (w2.setCell ⟨w.heap.size, 6, none⟩ (.int .i64 0)) by
    rw [HBN.out]
    exact ⟨none, 0, none, 0, own_setCells [.int .i64 0] (p := 6) O2.out, World.ownsRow_nil _ _ _ _, World.ownsRow_nil _ _ _ _, .inl rfl⟩)
  have B3 := hid (B2.out.setCell (p := ⟨w.heap.size, 6, none⟩) (Nat.le_refl _) (.int .i64 0))
  go_upto_region 9 with fail
  generalize w2.setCell ⟨w.heap.size, 6, none⟩ (.int .i64 0) = W3 at S3 B3 ⊢
  clear g6 i6 O1 O2 B1 B2 hb1
  have hbn : bud.toNat ≤ 20000 := by omega
  go_loopg [12] 9 (fun g s12 wr => ∃ (k l2 : Nat) (fr : List Int) (t : List Nat), Aside (k + g = 9) ∧ Hid (topC (lens xs) strip saw 9 0 bud.toNat = topC (lens xs) strip saw (9 - k) k l2) ∧ l2 ≤ 20000 ∧ Below w.heap.size w wr ∧ CutAt w.heap.size (.slice A xs.length c) strip saw fr t (l2 : Int) (k : Int) wr)
  case atStart => exact ⟨0, bud.toNat, [], [], rfl, rfl, hbn, B3.out, S3.out⟩
  case round =>
    clear S3 B3
    obtain ⟨k, l2, fr, t, HG, HE, hl2, hbr, hst⟩ := hrel
    have SR := hid hst
    have BR := hid hbr
    clear hst hbr
    have hk9 : k ≤ 9 := by have := HG.out; omega
    obtain ⟨Af, cf, At, ct, ho, hf, ht, hap⟩ := SR.out
    have HO := hid ho
    clear ho hf ht hap
    have c3 := HO.out.cellAt 3 (by omega)
    have c4 := HO.out.cellAt 4 (by omega)
    have c6 := HO.out.cellAt 6 (by omega)
    have f3 := HO.out.frozenAt 3
    have f4 := HO.out.frozenAt 4
    have f6 := HO.out.frozenAt 6
    simp only [List.getElem?_cons_zero, List.getElem?_cons_succ] at c3 c4 c6
    by_cases hk8 : k ≤ 8
    · have q1 : (k : Int) ≤ 8 := by omega
      obtain ⟨hs4, hb4⟩ := SR.out.reset.1
      have S4 := hid hs4
      have B4 := hid (BR.out.trans hb4)
      clear hs4 hb4
      go_upto_region 12 with fail
      generalize (wr.setCell ⟨w.heap.size, 3, none⟩ (.slice none 0 0)).setCell ⟨w.heap.size, 4, none⟩ (.slice none 0 0) = W4 at S4 B4 ⊢
      clear c3 f3 c4 f4 c6 f6 HO SR BR
      go_wp2_with fail
      refine (cutSearch xs A c w.heap.size k w strip saw HA.out rfl hsd had HP.out hl8 hk8 xs.length [] [] l2 W4 (by simp) (fun f hf => by cases hf) (Nat.zero_le _) hl2 B4.out S4.out).mono ?_
      rintro e W5 ⟨hb5, hr⟩
      have B5 := hid hb5
      clear hb5
      have hle : 9 - k = (9 - (k + 1)) + 1 := by omega
      cases hq : cutS (lens xs) strip saw k xs.length [] [] l2 with
      | full =>
        rw [hq] at hr
        obtain rfl := hr
        have HN := hid (show fCut xs strip saw bud = ([], 0, 5) by rw [HF.out]; unfold fCutT; rw [HE.out, hle, topC_full (by rw [lens_length]; exact hq)])
        clear hq
        go_wp2_with fail
        go_ret3
        exact RetIIC.nil HN.out B5.out
      | solved t2 =>
        rw [hq] at hr
        obtain ⟨rfl, fr2, left2, Af2, cf2, At2, ct2, ho, -, ht, -⟩ := hr
        have HN := hid (show fCut xs strip saw bud = (intsN t2, (k : Int), 0) by rw [HF.out]; unfold fCutT; rw [HE.out, hle, topC_solved (by rw [lens_length]; exact hq)])
        have HT := hid ht
        have g4 := ho.cellAt 4 (by omega)
        have g6 := ho.cellAt 6 (by omega)
        simp only [List.getElem?_cons_zero, List.getElem?_cons_succ] at g4 g6
        clear hq ho ht
        go_wp2_with fail
        go_quiet (fail)
        go_wp2_with fail
        go_ret3
        exact RetIIC.own HN.out (intsN_length _).symm (own_mono (w := W5) HT.out (by omega)) (below_drewN' B5.out _)
      | fail l3 =>
        rw [hq] at hr
        obtain ⟨rfl, hl3, hst5⟩ := hr
        have HN := hid (show topC (lens xs) strip saw 9 0 bud.toNat = topC (lens xs) strip saw (9 - (k + 1)) (k + 1) l3 by rw [HE.out, hle, topC_fail (by rw [lens_length]; exact hq)])
        have hcast : ((k : Int) + 1) = ((k + 1 : Nat) : Int) := by omega
        have S6 := hid (show CutAt w.heap.size (.slice A xs.length c) strip saw [] [] (l3 : Int) ((k + 1 : Nat) : Int) (W5.setCell ⟨w.heap.size, 6, none⟩ (.int .i64 ((k : Int) + 1))) by rw [← hcast]; exact (hst5.setMost _).1)
        have B6 := hid (B5.out.trans (hst5.setMost ((k : Int) + 1)).2)
        obtain ⟨Af2, cf2, At2, ct2, ho, -, -, -⟩ := hst5
        have g6 := ho.cellAt 6 (by omega)
        have i6 := ho.frozenAt 6
        simp only [List.getElem?_cons_zero, List.getElem?_cons_succ] at g6
        clear hq ho hcast
        go_wp2_with fail
        go_roundg (9 - (k + 1))
        case rel => exact ⟨k + 1, l3, [], [], by show _ = _; omega, HN.out, hl3, B6.out, S6.out⟩
        case measure => have := HG.out; omega
    · have q1 : ¬ (k : Int) ≤ 8 := by omega
      have HN := hid (show fCut xs strip saw bud = ([], 0, 5) by rw [HF.out]; unfold fCutT; rw [HE.out, show 9 - k = 0 by omega]; rfl)
      go_wp2_with fail
      go_ret3
      exact RetIIC.nil HN.out BR.out

theorem RutAt.reset {b : Nat} {LA : Value} {strip saw mo : Int} {us : List Int} {t : List Nat} {nodes bud : Int} {full : Bool} {w : World} (h : RutAt b LA strip saw mo us t nodes bud full w) :
    RutAt b LA strip saw mo us [] nodes bud full ((w.setCell ⟨b, 4, none⟩ (.slice (some ⟨w.heap.size, 0, none⟩) 0 0)).alloc (.cells #[] 2)) ∧ Below b w ((w.setCell ⟨b, 4, none⟩ (.slice (some ⟨w.heap.size, 0, none⟩) 0 0)).alloc (.cells #[] 2)) := by
  obtain ⟨Af, cf, At, ct, ho, hf, ht, hap⟩ := h
  have hlt := (ho.lt b rfl).2
  have e : (w.setCell ⟨b, 4, none⟩ (.slice (some ⟨w.heap.size, 0, none⟩) 0 0)).heap.size = w.heap.size := by simp
  have hn := World.ownsRow_lit (base := w.heap.size) (e := 2) (size := 1) (w.setCell ⟨b, 4, none⟩ (.slice (some ⟨w.heap.size, 0, none⟩) 0 0)) #[] 0 (by rw [e]; exact Nat.le_refl _) (by unfold maxLen; omega) rfl
  rw [e] at hn
  refine ⟨⟨Af, cf, some ⟨w.heap.size, 0, none⟩, 0, (own_setCells [.slice (some ⟨w.heap.size, 0, none⟩) 0 0] (p := 4) ho).alloc _, (own_apart hf (by simp) _).alloc _, own_mono hn (by omega), ?_⟩, ((Below.refl b w).setCell (p := ⟨b, 4, none⟩) (Nat.le_refl _) _).alloc (by rw [e]; omega) _⟩
  refine .inr (fun e2 => ?_)
  exact absurd (show w.heap.size < w.heap.size from (hf.lt _ e2).2) (Nat.lt_irrefl _)
theorem RutAt.made {b : Nat} {LA : Value} {strip saw mo : Int} {us : List Int} {t : List Nat} {nodes bud : Int} {full : Bool} {w w2 : World} {g k c2 : Nat} (h : RutAt b LA strip saw mo us t nodes bud full w) (hb : Below w.heap.size w w2) (h2 : w2.ownsRow w.heap.size 2 1 (.slice (some ⟨g, 0, none⟩) k c2) k (iV (List.replicate k 0))) :
    (RutAt b LA strip saw mo (List.replicate k 0) t nodes bud full (w2.setCell ⟨b, 5, none⟩ (.slice (some ⟨g, 0, none⟩) k c2)) ∧ Below b w (w2.setCell ⟨b, 5, none⟩ (.slice (some ⟨g, 0, none⟩) k c2))) := by
  obtain ⟨Af, cf, At, ct, ho, hf, ht, hap⟩ := h
  have hlt := (ho.lt b rfl).2
  refine ⟨⟨some ⟨g, 0, none⟩, c2, At, ct, ?_, ?_, own_apart (own_below ht hb) (by simp) _, ?_⟩, (hb.mono (Nat.le_of_lt hlt)).setCell (p := ⟨b, 5, none⟩) (Nat.le_refl _) _⟩
  · rw [List.length_replicate]
    exact own_setCells [.slice (some ⟨g, 0, none⟩) k c2] (p := 5) (own_below ho hb)
  · rw [List.length_replicate]
    exact own_apart (own_mono h2 (by omega)) (by simp) _
  · rw [List.length_replicate]
    exact apart_new ht h2
theorem RutAt.setStrips {b : Nat} {LA : Value} {strip saw mo : Int} {us : List Int} {t : List Nat} {nodes bud : Int} {full : Bool} {w : World} (h : RutAt b LA strip saw mo us t nodes bud full w) (m2 : Int) : RutAt b LA strip saw m2 us t nodes bud full (w.setCell ⟨b, 3, none⟩ (.int .i64 m2)) ∧ Below b w (w.setCell ⟨b, 3, none⟩ (.int .i64 m2)) := by
  obtain ⟨Af, cf, At, ct, ho, hf, ht, hap⟩ := h
  exact ⟨⟨Af, cf, At, ct, own_setCells [.int .i64 m2] (p := 3) ho, own_apart hf (by simp) _, own_apart ht (by simp) _, hap⟩, (Below.refl b w).setCell (p := ⟨b, 3, none⟩) (Nat.le_refl _) _⟩

set_option maxHeartbeats 3200000 in
set_option maxRecDepth 100000 in
theorem specCut_ok (A : Option Addr) (c : Nat) (xs : List DRib) (strip saw bud : Int) (w : World) (hA : RowsAt w 3 A (xs.map DRib.cells)) (hok : ∀ x ∈ xs, x.ok) (hn : xs.length ≤ 1048576) :
    Calls Try.prog 19 #[(.slice A xs.length c), .int .i64 strip, .int .i64 saw, .int .i64 bud] w (RetIIC w (fCut xs strip saw bud)) := by
  have HA := hid hA
  have HK := hid hok
  clear hA hok
  cases c1 : ribsB xs
  · have HF := hid (show fCut xs strip saw bud = ([], 0, 1) by unfold fCut; rw [if_pos c1])
    go_enter Try.func19, Try.ntmps19
    go_wp2_with fail
    refine (l06Ask_ok xs A c strip saw _ HA.out HK.out hn 1 (by rw [c1]; rfl)).mono ?_
    rintro e w1 ⟨rfl, hb1⟩
    have B1 := hid hb1
    clear hb1
    go_wp2_with fail
    go_ret3
    exact RetIIC.nil HF.out B1.out
  cases c2 : inB strip 1 100000
  · have HF := hid (show fCut xs strip saw bud = ([], 0, 2) by unfold fCut; rw [if_neg (by rw [c1]; simp), if_pos (.inl c2)])
    go_enter Try.func19, Try.ntmps19
    go_wp2_with fail
    refine (l06Ask_ok xs A c strip saw _ HA.out HK.out hn 2 (by rw [c1, c2]; rfl)).mono ?_
    rintro e w1 ⟨rfl, hb1⟩
    have B1 := hid hb1
    clear hb1
    go_wp2_with fail
    go_ret3
    exact RetIIC.nil HF.out B1.out
  cases c3 : inB saw 0 100
  · have HF := hid (show fCut xs strip saw bud = ([], 0, 2) by unfold fCut; rw [if_neg (by rw [c1]; simp), if_pos (.inr (.inl c3))])
    go_enter Try.func19, Try.ntmps19
    go_wp2_with fail
    refine (l06Ask_ok xs A c strip saw _ HA.out HK.out hn 2 (by rw [c1, c2, c3]; rfl)).mono ?_
    rintro e w1 ⟨rfl, hb1⟩
    have B1 := hid hb1
    clear hb1
    go_wp2_with fail
    go_ret3
    exact RetIIC.nil HF.out B1.out
  cases c4 : inB bud 1 20000
  · have HF := hid (show fCut xs strip saw bud = ([], 0, 2) by unfold fCut; rw [if_neg (by rw [c1]; simp), if_pos (.inr (.inr c4))])
    go_enter Try.func19, Try.ntmps19
    go_wp2_with fail
    refine (l06Ask_ok xs A c strip saw _ HA.out HK.out hn 0 (by rw [c1, c2, c3]; simp)).mono ?_
    rintro e w1 ⟨rfl, hb1⟩
    have B1 := hid hb1
    clear hb1
    go_wp2_with (go_at_call 69; refine (l00In_ok _ _ _ _).mono ?_; rintro e w' ⟨rfl, rfl⟩)
    go_ret3
    exact RetIIC.nil HF.out B1.out
  have HV := hid (show ¬ (inB strip 1 100000 = false ∨ inB saw 0 100 = false ∨ inB bud 1 20000 = false) by rw [c2, c3, c4]; simp)
  cases c5 : (lens xs).any (fun n => decide (strip < n))
  rotate_left
  · have HF := hid (show fCut xs strip saw bud = ([], 0, 6) by unfold fCut; rw [if_neg (by rw [c1]; simp), if_neg HV.out, if_pos c5])
    go_enter Try.func19, Try.ntmps19
    go_wp2_with fail
    refine (l06Ask_ok xs A c strip saw _ HA.out HK.out hn 0 (by rw [c1, c2, c3]; simp)).mono ?_
    rintro e w1 ⟨rfl, hb1⟩
    have B1 := hid hb1
    clear hb1
    go_wp2_with (first | (go_at_call 69; refine (l00In_ok _ _ _ _).mono ?_; rintro e w' ⟨rfl, rfl⟩) | (go_at_call 79; refine (l06Short_ok xs A c strip _ (HA.out.below B1.out) hn 6 (by rw [c5]; rfl)).mono ?_; rintro e w' ⟨rfl, rfl⟩))
    go_ret3
    exact RetIIC.nil HF.out B1.out
  have HF := hid (show fCut xs strip saw bud = fCutT xs strip saw bud by unfold fCut fCutT; rw [if_neg (by rw [c1]; simp), if_neg HV.out, if_neg (by rw [c5]; simp)]; rfl)
  have hbd := inB_iff.1 c4
  have hsd := inB_iff.1 c2
  have had := inB_iff.1 c3
  obtain ⟨hl8, hP⟩ := ribsB_bd c1
  have HP := hid hP
  clear hP
  have HBN := hid (show ((bud.toNat : Nat) : Int) = bud by omega)
  obtain ⟨i0, hi, hz0, hz1, hz2⟩ := info_parts infoI
  go_enter Try.func19, Try.ntmps19
  go_wp2_with fail
  refine (l06Ask_ok xs A c strip saw _ HA.out HK.out hn 0 (by rw [c1, c2, c3]; simp)).mono ?_
  rintro e w1 ⟨rfl, hb1⟩
  have B1 := hid hb1
  clear hb1
  have BX := hid (below_alloc w1 (.cells #[.slice A xs.length c, .int .i64 strip, .int .i64 saw, .int .i64 0, .slice none 0 0, .slice none 0 0, .int .i64 0, .int .i64 bud, .bool false] 116))
  have HO := hid (World.ownsRow_lit (e := 116) (size := 9) w1 #[.slice A xs.length c, .int .i64 strip, .int .i64 saw, .int .i64 0, .slice none 0 0, .slice none 0 0, .int .i64 0, .int .i64 bud, .bool false] 1 (Nat.le_refl _) (by unfold maxLen; omega) rfl)
  go_upto_region 9 with (first | (go_at_call 69; refine (l00In_ok _ _ _ _).mono ?_; rintro e w' ⟨rfl, rfl⟩) | (go_at_call 79; refine (l06Short_ok xs A c strip _ (HA.out.below B1.out) hn 0 (by rw [c5]; rfl)).mono ?_; rintro e w' ⟨rfl, rfl⟩))
  have S3 := hid (show RutAt w1.heap.size (.slice A xs.length c) strip saw ((0 : Nat) : Int) [] [] (bud - ((bud.toNat : Nat) : Int)) bud false (w1.alloc (.cells #[.slice A xs.length c, .int .i64 strip, .int .i64 saw, .int .i64 0, .slice none 0 0, .slice none 0 0, .int .i64 0, .int .i64 bud, .bool false] 116)) by
    rw [HBN.out, Int.sub_self]
    exact ⟨none, 0, none, 0, HO.out, World.ownsRow_nil _ _ _ _, World.ownsRow_nil _ _ _ _, .inl rfl⟩)
  have B3 := hid BX.out
  go_upto_region 10 with fail
  generalize w1.alloc (.cells #[.slice A xs.length c, .int .i64 strip, .int .i64 saw, .int .i64 0, .slice none 0 0, .slice none 0 0, .int .i64 0, .int .i64 bud, .bool false] 116) = W3 at S3 B3 ⊢
  clear BX HO
  have hbn : ((bud.toNat : Nat) : Int) ≤ bud := by omega
  have HAW := hid (HA.out.below B1.out)
  have hww := B1.out.size
  go_loopg [73] 9 (fun g s12 wr => ∃ (k l2 : Nat) (fl : Bool) (us : List Int) (t : List Nat), Aside (k + g = 9) ∧ Hid ((fl = false ∧ topC (lens xs) strip saw 9 0 bud.toNat = topC (lens xs) strip saw (9 - k) k l2) ∨ (fl = true ∧ topC (lens xs) strip saw 9 0 bud.toNat = none)) ∧ (l2 : Int) ≤ bud ∧ Below w1.heap.size w1 wr ∧ RutAt w1.heap.size (.slice A xs.length c) strip saw (k : Int) us t (bud - (l2 : Int)) bud fl wr)
  case atStart => exact ⟨0, bud.toNat, false, [], [], rfl, .inl ⟨rfl, rfl⟩, hbn, B3.out, S3.out⟩
  case round =>
    clear S3 B3
    obtain ⟨k, l2, fl, us, t, HG, HE, hl2, hbr, hst⟩ := hrel
    have SR := hid hst
    have BR := hid hbr
    have hbr2 := hst.lt
    clear hst hbr
    have hk9 : k ≤ 9 := by have := HG.out; omega
    obtain ⟨Af, cf, At, ct, ho, hf, ht, hap⟩ := SR.out
    have HO := hid ho
    clear ho hf ht hap
    have c3 := HO.out.cellAt 3 (by omega)
    have c4 := HO.out.cellAt 4 (by omega)
    have c8 := HO.out.cellAt 8 (by omega)
    have f3 := HO.out.frozenAt 3
    have f4 := HO.out.frozenAt 4
    have f8 := HO.out.frozenAt 8
    simp only [List.getElem?_cons_zero, List.getElem?_cons_succ] at c3 c4 c8
    by_cases hk8 : k ≤ 8
    · have q1 : (k : Int) ≤ 8 := by omega
      cases fl
      · have HE2 := hid (show topC (lens xs) strip saw 9 0 bud.toNat = topC (lens xs) strip saw (9 - k) k l2 by
          rcases HE.out with ⟨_, h⟩ | ⟨h, _⟩
          · exact h
          · cases h)
        have hrs := RutAt.reset SR.out
        have S4 := hid hrs.1
        have B4 := hid (BR.out.trans hrs.2)
        clear hrs
        go_upto_region 13 with fail
        generalize (wr.setCell ⟨w1.heap.size, 4, none⟩ (.slice (some ⟨wr.heap.size, 0, none⟩) 0 0)).alloc (.cells #[] 2) = W4 at S4 B4 ⊢
        clear c3 f3 c4 f4 c8 f8 HO SR BR
        have hb4 := S4.out.lt
        obtain ⟨Af, cf, At, ct, ho, hf, ht, hap⟩ := S4.out
        have HO := hid ho
        clear ho hf ht hap
        have c3 := HO.out.cellAt 3 (by omega)
        have c5 := HO.out.cellAt 5 (by omega)
        have f3 := HO.out.frozenAt 3
        have f5 := HO.out.frozenAt 5
        simp only [List.getElem?_cons_zero, List.getElem?_cons_succ] at c3 c5
        have q2 : (0 : Int) ≤ (k : Int) := by omega
        go_upto_region 14 with (at_make; refine wpList_make_full _ rfl _ _ _ rfl W4.heap.size 2 i0 (.int .i64 0) 1 Try.underlying24 hi hz0 hz1 .i64 .i64 _ _ k rfl rfl rfl rfl (by rw [hz2]; omega) (by unfold maxLen; omega) (Nat.le_refl _) ?_; intro w5 hown5 hg5; have BM := (Below.refl W4.heap.size W4).grown hg5 (Nat.le_refl _) (fun k hk => by cases hk); have hmd := RutAt.made (k := k) S4.out BM (by have e : iV (List.replicate k 0) = (madeCells (Value.int .i64 0).cells (k * 1)).toList := (by rw [made_one _ _ rfl]; simp [iV]); rw [e]; exact hown5); have S5 := hid hmd.1; have B5 := hid (B4.out.trans hmd.2); have e5 := (BM.cell (p := ⟨w1.heap.size, 5, none⟩) hb4).trans c5; have i5 := (BM.frozen (p := ⟨w1.heap.size, 5, none⟩) hb4).trans f5; clear hmd BM hown5 hg5 c3 f3 c5 f5)
        clear e5 i5 HO S4 B4
        generalize w5.setCell ⟨w1.heap.size, 5, none⟩ (.slice (some ⟨W4.heap.size, 0, none⟩) k k) = W5 at S5 B5 ⊢
        have hcall : Calls Try.prog 80 #[.pointer (some ⟨w1.heap.size, 0, none⟩), .int .i64 0] W5 (LPost w1.heap.size w1 (.slice A xs.length c) strip saw (k : Int) bud (cutS (lens xs) strip saw k xs.length [] [] l2) (usOf strip [] k) []) :=
          rutSearch xs A c w1.heap.size k w1 strip saw HAW.out rfl hsd had HP.out hl8 hk8 bud (by omega) xs.length [] [] l2 W5 (by simp) (fun f hf => by cases hf) (Nat.zero_le _) hl2 B5.out (by rw [usOf_nil]; exact S5.out)
        have HC := hid hcall
        clear hcall
        go_wp2_with fail
        refine HC.out.mono ?_
        rintro e W6 ⟨hb6, hr⟩
        have B6 := hid hb6
        clear hb6 HC
        have hle : 9 - k = (9 - (k + 1)) + 1 := by omega
        have hcast : ((k : Int) + 1) = ((k + 1 : Nat) : Int) := by omega
        cases hq : cutS (lens xs) strip saw k xs.length [] [] l2 with
        | solved t2 =>
          rw [hq] at hr
          obtain ⟨rfl, us2, nd2, fl2, Af2, cf2, At2, ct2, ho, -, ht, -⟩ := hr
          have HN := hid (show fCut xs strip saw bud = (intsN t2, (k : Int), 0) by rw [HF.out]; unfold fCutT; rw [HE2.out, hle, topC_solved (by rw [lens_length]; exact hq)])
          have HT := hid ht
          have g3 := ho.cellAt 3 (by omega)
          have g4 := ho.cellAt 4 (by omega)
          simp only [List.getElem?_cons_zero, List.getElem?_cons_succ] at g3 g4
          clear hq ho ht hcast
          go_wp2_with fail
          go_quiet (fail)
          go_wp2_with fail
          go_ret3
          exact RetIIC.own HN.out (intsN_length _).symm (own_mono (w := W6) HT.out (by omega)) (below_drewN' (B1.out.trans (B6.out.mono hww)) _)
        | full =>
          rw [hq] at hr
          obtain ⟨rfl, hst5⟩ := hr
          have HN := hid (show topC (lens xs) strip saw 9 0 bud.toNat = none by rw [HE2.out, hle, topC_full (by rw [lens_length]; exact hq)])
          have hbb : bud = bud - ((0 : Nat) : Int) := by omega
          have S7 := hid (show RutAt w1.heap.size (.slice A xs.length c) strip saw ((k + 1 : Nat) : Int) (usOf strip [] k) [] (bud - ((0 : Nat) : Int)) bud true (W6.setCell ⟨w1.heap.size, 3, none⟩ (.int .i64 ((k : Int) + 1))) by rw [← hcast, ← hbb]; exact (hst5.setStrips _).1)
          have B7 := hid (B6.out.trans (hst5.setStrips ((k : Int) + 1)).2)
          obtain ⟨Af2, cf2, At2, ct2, ho, -, -, -⟩ := hst5
          have g3 := ho.cellAt 3 (by omega)
          have i3 := ho.frozenAt 3
          simp only [List.getElem?_cons_zero, List.getElem?_cons_succ] at g3
          clear hq ho hcast hbb
          go_wp2_with fail
          go_roundg (9 - (k + 1))
          case rel => exact ⟨k + 1, 0, true, _, _, by show _ = _; omega, .inr ⟨rfl, HN.out⟩, by omega, B7.out, S7.out⟩
          case measure => have := HG.out; omega
        | fail l3 =>
          rw [hq] at hr
          obtain ⟨rfl, hl3, hst5⟩ := hr
          have HN := hid (show topC (lens xs) strip saw 9 0 bud.toNat = topC (lens xs) strip saw (9 - (k + 1)) (k + 1) l3 by rw [HE2.out, hle, topC_fail (by rw [lens_length]; exact hq)])
          have S7 := hid (show RutAt w1.heap.size (.slice A xs.length c) strip saw ((k + 1 : Nat) : Int) (usOf strip [] k) [] (bud - (l3 : Int)) bud false (W6.setCell ⟨w1.heap.size, 3, none⟩ (.int .i64 ((k : Int) + 1))) by rw [← hcast]; exact (hst5.setStrips _).1)
          have B7 := hid (B6.out.trans (hst5.setStrips ((k : Int) + 1)).2)
          obtain ⟨Af2, cf2, At2, ct2, ho, -, -, -⟩ := hst5
          have g3 := ho.cellAt 3 (by omega)
          have i3 := ho.frozenAt 3
          simp only [List.getElem?_cons_zero, List.getElem?_cons_succ] at g3
          clear hq ho hcast
          go_wp2_with fail
          go_roundg (9 - (k + 1))
          case rel => exact ⟨k + 1, l3, false, _, _, by show _ = _; omega, .inl ⟨rfl, HN.out⟩, hl3, B7.out, S7.out⟩
          case measure => have := HG.out; omega
      · have HN := hid (show fCut xs strip saw bud = ([], 0, 5) by
          rcases HE.out with ⟨h, _⟩ | ⟨_, h⟩
          · cases h
          · rw [HF.out]; unfold fCutT; rw [h])
        go_wp2_with fail
        go_ret3
        exact RetIIC.nil HN.out (B1.out.trans (BR.out.mono hww))
    · have q1 : ¬ (k : Int) ≤ 8 := by omega
      have HN := hid (show fCut xs strip saw bud = ([], 0, 5) by
        rw [HF.out]; unfold fCutT
        rcases HE.out with ⟨_, h⟩ | ⟨_, h⟩
        · rw [h, show 9 - k = 0 by omega]; rfl
        · rw [h])
      go_wp2_with fail
      go_ret3
      exact RetIIC.nil HN.out (B1.out.trans (BR.out.mono hww))
theorem topC_len {ls : List Int} {strip saw : Int} : ∀ (n k l : Nat) (t : List Nat) (k2 : Nat), topC ls strip saw n k l = some (t, k2) → t.length = ls.length
  | 0, k, l, t, k2, h => by rw [topC] at h; cases h
  | n + 1, k, l, t, k2, h => by
    cases hq : cutS ls strip saw k ls.length [] [] l with
    | full => rw [topC_full hq] at h; cases h
    | solved t2 =>
      rw [topC_solved hq] at h
      injection h with h
      injection h with h1 h2
      rw [← h1]
      have := cutS_len ls.length [] [] l t2 hq
      simpa using this
    | fail l2 => rw [topC_fail hq] at h; exact topC_len n (k + 1) l2 t k2 h
theorem fCut_small (xs : List DRib) (strip saw bud : Int) : (fCut xs strip saw bud).1.length ≤ 8 := by
  unfold fCut
  split
  · simp
  · rename_i h1
    split
    · simp
    · split
      · simp
      · split
        · simp
        · rename_i t k hq
          rw [intsN_length, topC_len _ _ _ _ _ hq, lens_length]
          exact (ribsB_bd (show ribsB xs = true by cases h : ribsB xs; exact absurd h h1; rfl)).1
end Go.Proofs.Ytdbjbkdcmhekfaa
