/- GlueJoints: the program's search. -/
import Derived.Test.YtdbjbkdcmhekfaaGluV
import Derived.Deep.DeepCutAuto
namespace Go.Proofs.Ytdbjbkdcmhekfaa
open Go.RowKit
set_option linter.unusedVariables false

/-- a pot's copy that no step of the search turns -/
structure PX (pb b r : Nat) (ps : List Value) (W : World) : Prop where
  lt : pb < W.heap.size
  ne : blkAt b 4 W ≠ some pb
  cell : ∀ (i : Nat) (v : Value), ps[i]? = some v → W.cell? ⟨pb, i, none⟩ = some v
theorem PX.kept {pb b r : Nat} {ps : List Value} {W W' : World} (h : PX pb b r ps W) (hk : Kept b 4 (fun g => g = r) W W') (hp : b < pb) (hr : r < b) : PX pb b r ps W' := by
  refine ⟨Nat.lt_of_lt_of_le h.lt hk.size, ?_, fun i v hi => hk.cell h.lt (by omega) (by show ¬ pb = r; omega) h.ne (h.cell i v hi)⟩
  rcases hk.tk with h1 | ⟨g, h1, h2⟩
  · rw [h1]; exact h.ne
  · rw [h1]
    intro e
    injection e with e
    have := h.lt
    omega

set_option maxHeartbeats 12800000 in
set_option maxRecDepth 100000 in
theorem glu_leaf (xs : List DPot) (ns : List Int) (A : Option Addr) (c : Nat) (N : Option Addr) (cN b r cr : Nat) (w0 : World) (hA : RowsAt w0 5 A (xs.map DPot.cells)) (hN : IntsAt w0 N ns) (hX : ∀ x ∈ xs, potD0 x) (hn : xs.length ≤ 8) (hns : ∀ n ∈ ns, 1 ≤ n ∧ n ≤ 10000) (hnn : ns.length ≤ 10) (hr0 : w0.heap.size ≤ r) (hrb : r < b) (hcr : xs.length ≤ cr) : ∀ (rest : List Int) (t : List Nat) (s : Int) (S : WS) (w : World), t.length + 0 = ns.length → rest.length = xs.length → RestOk rest → (0 ≤ s ∧ s ≤ 1000 * (t.length : Int)) → S.left ≤ 20000 → Below w0.heap.size w0 w → GluS b (.slice A xs.length c) (.slice N ns.length cN) (.slice (some ⟨r, 0, none⟩) xs.length cr) (S.left : Int) t s S.best (mostF S.most) (decide (0 ≤ S.most)) w → RestAt r cr rest w →
    Calls Try.prog 113 #[.pointer (some ⟨b, 0, none⟩)] w (GPost b r cr w0 w (.slice A xs.length c) (.slice N ns.length cN) (.slice (some ⟨r, 0, none⟩) xs.length cr) (srchG xs ns 0 rest t s S) rest t s) := by
  intro rest t s S w hm hrl hro hs hl hbl hst hre
  have HB := hid hbl
  have HST := hid hst
  have HRE := hid hre
  have hbw := hst.lt
  obtain ⟨hs0, hs1⟩ := hs
  have htl : t.length ≤ 10 := by omega
  have d1 : ((t.length : Int) == (ns.length : Int)) = true := by rw [beq_iff_eq]; omega
  have HR := hid (show srchG xs ns 0 rest t s S = some (leafG S t s) from rfl)
  clear hA hN hX hns hm hro hbl hst hre
  obtain ⟨At, ct, Ab, cb, ho, htk, hbs, hap⟩ := HST.out
  have HO := hid ho
  have HT := hid htk
  have HS := hid hbs
  have HP := hid hap
  clear ho htk hbs hap
  have c0 := HO.out.cellAt 0 (by omega)
  have c1 := HO.out.cellAt 1 (by omega)
  have c2 := HO.out.cellAt 2 (by omega)
  have c3 := HO.out.cellAt 3 (by omega)
  have c4 := HO.out.cellAt 4 (by omega)
  have c5 := HO.out.cellAt 5 (by omega)
  have c6 := HO.out.cellAt 6 (by omega)
  have c7 := HO.out.cellAt 7 (by omega)
  have c8 := HO.out.cellAt 8 (by omega)
  have f0 := HO.out.frozenAt 0
  have f1 := HO.out.frozenAt 1
  have f2 := HO.out.frozenAt 2
  have f3 := HO.out.frozenAt 3
  have f4 := HO.out.frozenAt 4
  have f5 := HO.out.frozenAt 5
  have f6 := HO.out.frozenAt 6
  have f7 := HO.out.frozenAt 7
  have f8 := HO.out.frozenAt 8
  simp only [List.getElem?_cons_zero, List.getElem?_cons_succ] at c0 c1 c2 c3 c4 c5 c6 c7 c8
  by_cases hm0 : S.most < 0
  · have e8 : decide (0 ≤ S.most) = false := decide_eq_false (by omega)
    have HL := hid (show leafG S t s = ⟨S.left, t, s⟩ by unfold leafG; rw [if_pos (.inl hm0)])
    rw [e8] at c8
    clear hm0 e8
    · skip
      go_enter Try.func113, Try.ntmps113
      go_wp2_with fail
      go_quiet (fail)
      go_wp2_with fail
      have SQ := hid (HST.out.drewN nq)
      have BQ := hid (below_drewN' HB.out nq)
      have KQ := hid ((Kept.refl b 4 (fun g => g = r) w).drewN nq)
      have RQ := hid (show RestAt r cr rest (w.drewN nq) from HRE.out)
      clear c0 f0 c1 f1 c2 f2 c3 f3 c4 f4 c5 f5 c6 f6 c7 f7 c8 f8 HO HT HS HP HST HB HRE
      generalize w.drewN nq = W at SQ BQ KQ RQ ⊢
      obtain ⟨At, ct, Ab, cb, ho, htk, hbs, hap⟩ := SQ.out
      have HO := hid ho
      have HT := hid htk
      have HS := hid hbs
      have HP := hid hap
      clear ho htk hbs hap
      clear HS HP
      have c0 := HO.out.cellAt 0 (by omega)
      have c1 := HO.out.cellAt 1 (by omega)
      have c2 := HO.out.cellAt 2 (by omega)
      have c3 := HO.out.cellAt 3 (by omega)
      have c4 := HO.out.cellAt 4 (by omega)
      have c5 := HO.out.cellAt 5 (by omega)
      have c6 := HO.out.cellAt 6 (by omega)
      have c7 := HO.out.cellAt 7 (by omega)
      have c8 := HO.out.cellAt 8 (by omega)
      have f0 := HO.out.frozenAt 0
      have f1 := HO.out.frozenAt 1
      have f2 := HO.out.frozenAt 2
      have f3 := HO.out.frozenAt 3
      have f4 := HO.out.frozenAt 4
      have f5 := HO.out.frozenAt 5
      have f6 := HO.out.frozenAt 6
      have f7 := HO.out.frozenAt 7
      have f8 := HO.out.frozenAt 8
      simp only [List.getElem?_cons_zero, List.getElem?_cons_succ] at c0 c1 c2 c3 c4 c5 c6 c7 c8
      refine wp_region_T (fun w' => w'.cell? ⟨b, 4, none⟩ = some (.slice At t.length ct) ∧ w'.cell? ⟨b, 5, none⟩ = some (.int .i64 s)) [14] (by kernel_rfl) ⟨c4, c5⟩ (fun hHeld => ?_)
      refine wpAnyT_takeW (i := 0) (oi := ⟨some 35, _, _, _, _, _⟩) (v := ?_) rfl (by kernel_rfl) (by kernel_rfl) (by kernel_rfl) (by kernel_rfl) (fun _ _ _ h => h) (Or.inl ⟨by rfl, ?_⟩) (by assumption) ?_
      rotate_left
      · (intro w hSw; go_simp; try with_reducible rfl)
      try simp only [Act.put, List.setIfInBounds_toArray, List.set_cons_zero, List.set_cons_succ]
      refine wpAnyT_takeW (i := 1) (oi := ⟨some 36, _, _, _, _, _⟩) (v := ?_) rfl (by kernel_rfl) (by kernel_rfl) (by kernel_rfl) (by kernel_rfl) (fun _ _ _ h => h) (Or.inl ⟨by rfl, ?_⟩) (by assumption) ?_
      rotate_left
      · (intro w hSw; go_simp; try with_reducible rfl)
      try simp only [Act.put, List.setIfInBounds_toArray, List.set_cons_zero, List.set_cons_succ]
      refine wpAnyT_takeW (i := 2) (oi := ⟨some 37, _, _, _, _, _⟩) (v := ?_) rfl (by kernel_rfl) (by kernel_rfl) (by kernel_rfl) (by kernel_rfl) (fun _ _ _ h => h) (Or.inl ⟨by rfl, ?_⟩) (by assumption) ?_
      rotate_left
      · (intro w hSw; go_simp; try with_reducible rfl)
      try simp only [Act.put, List.setIfInBounds_toArray, List.set_cons_zero, List.set_cons_succ]
      refine wpAnyT_takeW (i := 3) (oi := ⟨some 38, _, _, _, _, _⟩) (v := ?_) rfl (by kernel_rfl) (by kernel_rfl) (by kernel_rfl) (by kernel_rfl) (fun _ _ _ h => h) (Or.inl ⟨by rfl, ?_⟩) (by assumption) ?_
      rotate_left
      · (intro w hSw; go_simp; try with_reducible rfl)
      try simp only [Act.put, List.setIfInBounds_toArray, List.set_cons_zero, List.set_cons_succ]
      refine wpAnyT_takeW (i := 4) (oi := ⟨some 39, _, _, _, _, _⟩) (v := ?_) rfl (by kernel_rfl) (by kernel_rfl) (by kernel_rfl) (by kernel_rfl) (fun _ _ _ h => h) (Or.inl ⟨by rfl, ?_⟩) (by assumption) ?_
      rotate_left
      · (intro w hSw; go_simp; try with_reducible rfl)
      try simp only [Act.put, List.setIfInBounds_toArray, List.set_cons_zero, List.set_cons_succ]
      refine wpAnyT_takeW (i := 5) (oi := ⟨some 40, _, _, _, _, _⟩) (v := ?_) rfl (by kernel_rfl) (by kernel_rfl) (by kernel_rfl) (by kernel_rfl) (fun _ _ _ h => h) (Or.inl ⟨by rfl, ?_⟩) (by assumption) ?_
      rotate_left
      · (intro w hSw; go_simp; try with_reducible rfl)
      try simp only [Act.put, List.setIfInBounds_toArray, List.set_cons_zero, List.set_cons_succ]
      refine wpAnyT_take (i := 6) (oi := ⟨some 41, _, _, _, _, _⟩) (v := ?_) rfl (by kernel_rfl) (by kernel_rfl) (by kernel_rfl) (by kernel_rfl) (by kernel_rfl) (by kernel_rfl) (fun _ _ _ h => h) (Or.inl ⟨by rfl, ?_⟩) (by assumption) ?_
      rotate_left
      · (intro w hSw; (try dsimp only at hSw); go_simp; try with_reducible rfl)
      try simp only [Act.put, List.setIfInBounds_toArray, List.set_cons_zero, List.set_cons_succ]
      refine wpAnyT_takeW (i := 8) (oi := ⟨some 43, _, _, _, _, _⟩) (v := ?_) rfl (by kernel_rfl) (by kernel_rfl) (by kernel_rfl) (by kernel_rfl) (fun _ _ _ h => h) (Or.inl ⟨by rfl, ?_⟩) (by assumption) ?_
      rotate_left
      · (intro w hSw; go_simp; try with_reducible rfl)
      try simp only [Act.put, List.setIfInBounds_toArray, List.set_cons_zero, List.set_cons_succ]
      refine wpAnyT_takeW (i := 9) (oi := ⟨some 44, _, _, _, _, _⟩) (v := ?_) rfl (by kernel_rfl) (by kernel_rfl) (by kernel_rfl) (by kernel_rfl) (fun _ _ _ h => h) (Or.inl ⟨by rfl, ?_⟩) (by assumption) ?_
      rotate_left
      · (intro w hSw; go_simp; try with_reducible rfl)
      try simp only [Act.put, List.setIfInBounds_toArray, List.set_cons_zero, List.set_cons_succ]
      refine wpAnyT_takeW (i := 10) (oi := ⟨some 45, _, _, _, _, _⟩) (v := ?_) rfl (by kernel_rfl) (by kernel_rfl) (by kernel_rfl) (by kernel_rfl) (fun _ _ _ h => h) (Or.inl ⟨by rfl, ?_⟩) (by assumption) ?_
      rotate_left
      · (intro w hSw; go_simp; try with_reducible rfl)
      try simp only [Act.put, List.setIfInBounds_toArray, List.set_cons_zero, List.set_cons_succ]
      refine wpAnyT_take (i := 11) (oi := ⟨some 46, _, _, _, _, _⟩) (v := ?_) rfl (by kernel_rfl) (by kernel_rfl) (by kernel_rfl) (by kernel_rfl) (by kernel_rfl) (by kernel_rfl) (fun _ _ _ h => h) (Or.inl ⟨by rfl, ?_⟩) (by assumption) ?_
      rotate_left
      · (intro w hSw; (try dsimp only at hSw); go_simp; try with_reducible rfl)
      try simp only [Act.put, List.setIfInBounds_toArray, List.set_cons_zero, List.set_cons_succ]
      refine wpAnyT_ready (rs := [7]) (by kernel_rfl) (by simp) ?_
      refine AllReadyT.cons (o := ⟨some 42, _, _, _, _, _⟩) rfl (fun K hK => ?_) AllReadyT.nil
      go_simp
      go_at_call 137
      refine (gcloneT_ok At ct t _ (B := b + 1) (show W.drew.ownsRow (b + 1) 2 1 (.slice At t.length ct) t.length (tV t) from HT.out) (by omega)).mono ?_
      rintro e w3 ⟨A3, c3', rfl, ho3, hb3⟩
      have N3 := hid ho3
      have R3 := hid (glu_best (M := fun g => g = r) (W := W.drew) HO.out HT.out N3.out hb3)
      have O3 := hid (own_below (w := W.drew) HO.out hb3)
      have B3 := hid hb3
      clear c0 f0 c1 f1 c2 f2 c3 f3 c4 f4 c5 f5 c6 f6 c7 f7 c8 f8
      have c4 := O3.out.cellAt 4 (by omega)
      have c5 := O3.out.cellAt 5 (by omega)
      have c6 := O3.out.cellAt 6 (by omega)
      have f6 := O3.out.frozenAt 6
      have c7 := O3.out.cellAt 7 (by omega)
      have f7 := O3.out.frozenAt 7
      have c8 := O3.out.cellAt 8 (by omega)
      have f8 := O3.out.frozenAt 8
      simp only [List.getElem?_cons_zero, List.getElem?_cons_succ] at c4 c5 c6 c7 c8
      clear ho3 hb3
      (try go_wp2_with fail)
      refine hK.out _ _ (⟨c4, c5⟩) (fun hHeld => ?_)
      clear hK K
      try simp only [Act.put, List.setIfInBounds_toArray, List.set_cons_zero, List.set_cons_succ]
      refine wpAnyT_takeW (i := 12) (oi := ⟨some 47, _, _, _, _, _⟩) (v := ?_) rfl (by kernel_rfl) (by kernel_rfl) (by kernel_rfl) (by kernel_rfl) (fun _ _ _ h => h) (Or.inl ⟨by rfl, ?_⟩) (by assumption) ?_
      rotate_left
      · (intro w hSw; go_simp; try with_reducible rfl)
      try simp only [Act.put, List.setIfInBounds_toArray, List.set_cons_zero, List.set_cons_succ]
      refine wpAnyT_takeW (i := 13) (oi := ⟨some 48, _, _, _, _, _⟩) (v := ?_) rfl (by kernel_rfl) (by kernel_rfl) (by kernel_rfl) (by kernel_rfl) (fun _ _ _ h => h) (Or.inl ⟨by rfl, ?_⟩) (by assumption) ?_
      rotate_left
      · (intro w hSw; go_simp; try with_reducible rfl)
      try simp only [Act.put, List.setIfInBounds_toArray, List.set_cons_zero, List.set_cons_succ]
      refine wpAnyT_ready (rs := [14]) (by kernel_rfl) (by simp) ?_
      refine AllReadyT.consB (o := ⟨none, _, _, _, _, _⟩) rfl (by kernel_rfl) (fun K hK => ?_) AllReadyT.nil
      go_simp
      refine hK.out _ _ ?_
      clear hK K
      try simp only [Act.put, List.setIfInBounds_toArray, List.set_cons_zero, List.set_cons_succ]
      refine wpAnyT_takeV (i := 15) (oi := ⟨some 49, _, _, _, _, _⟩) (v := ?_) rfl (by kernel_rfl) (by kernel_rfl) (by kernel_rfl) (by kernel_rfl) (by kernel_rfl) (fun _ _ _ h => h) (Or.inl ⟨by rfl, ?_⟩) ?_
      rotate_left
      · (intro w hSw; go_simp; try with_reducible rfl)
      try simp only [Act.put, List.setIfInBounds_toArray, List.set_cons_zero, List.set_cons_succ]
      refine wpAnyT_takeV (i := 16) (oi := ⟨some 50, _, _, _, _, _⟩) (v := ?_) rfl (by kernel_rfl) (by kernel_rfl) (by kernel_rfl) (by kernel_rfl) (by kernel_rfl) (fun _ _ _ h => h) (Or.inl ⟨by rfl, ?_⟩) ?_
      rotate_left
      · (intro w hSw; go_simp; try with_reducible rfl)
      try simp only [Act.put, List.setIfInBounds_toArray, List.set_cons_zero, List.set_cons_succ]
      refine wpAnyT_ready (rs := [17]) (by kernel_rfl) (by simp) ?_
      refine AllReadyT.consB (o := ⟨none, _, _, _, _, _⟩) rfl (by kernel_rfl) (fun K hK => ?_) AllReadyT.nil
      go_simp
      refine hK.out _ _ ?_
      clear hK K
      try simp only [Act.put, List.setIfInBounds_toArray, List.set_cons_zero, List.set_cons_succ]
      refine wpAnyT_takeV (i := 18) (oi := ⟨some 51, _, _, _, _, _⟩) (v := ?_) rfl (by kernel_rfl) (by kernel_rfl) (by kernel_rfl) (by kernel_rfl) (by kernel_rfl) (fun _ _ _ h => h) (Or.inl ⟨by rfl, ?_⟩) ?_
      rotate_left
      · (intro w hSw; go_simp; try with_reducible rfl)
      try simp only [Act.put, List.setIfInBounds_toArray, List.set_cons_zero, List.set_cons_succ]
      refine wpAnyT_takeV (i := 19) (oi := ⟨some 52, _, _, _, _, _⟩) (v := ?_) rfl (by kernel_rfl) (by kernel_rfl) (by kernel_rfl) (by kernel_rfl) (by kernel_rfl) (fun _ _ _ h => h) (Or.inl ⟨by rfl, ?_⟩) ?_
      rotate_left
      · (intro w hSw; go_simp; try with_reducible rfl)
      try simp only [Act.put, List.setIfInBounds_toArray, List.set_cons_zero, List.set_cons_succ]
      refine wpAnyT_ready (rs := [20]) (by kernel_rfl) (by simp) ?_
      refine AllReadyT.consB (o := ⟨none, _, _, _, _, _⟩) rfl (by kernel_rfl) (fun K hK => ?_) AllReadyT.nil
      go_simp
      refine hK.out _ _ ?_
      clear hK K
      try simp only [Act.put, List.setIfInBounds_toArray, List.set_cons_zero, List.set_cons_succ]
      refine wpAnyT_done (by kernel_rfl) ?_ _
      go_wp2_with fail
      go_ret
      refine ⟨⟨BQ.out.drew.trans (R3.out.1.2.mono (by omega)), KQ.out.drew.trans R3.out.2⟩, RestAt.under (w := W.drew) RQ.out R3.out.1.2 hrb, ?_⟩
      rw [HR.out, HL.out]
      refine ⟨rfl, hl, ?_⟩
      rw [mostF_of hs0, decide_eq_true hs0]
      exact R3.out.1.1
  · have e8 : decide (0 ≤ S.most) = true := decide_eq_true (by omega)
    have e7 : mostF S.most = S.most := mostF_of (by omega)
    rw [e8] at c8
    rw [e7] at c7
    clear e7 e8
    by_cases hlt : S.most < s
    · have HL := hid (show leafG S t s = ⟨S.left, t, s⟩ by unfold leafG; rw [if_pos (.inr hlt)])
      clear hm0
      go_enter Try.func113, Try.ntmps113
      go_wp2_with fail
      go_quiet (fail)
      go_wp2_with fail
      have SQ := hid (HST.out.drewN nq)
      have BQ := hid (below_drewN' HB.out nq)
      have KQ := hid ((Kept.refl b 4 (fun g => g = r) w).drewN nq)
      have RQ := hid (show RestAt r cr rest (w.drewN nq) from HRE.out)
      clear c0 f0 c1 f1 c2 f2 c3 f3 c4 f4 c5 f5 c6 f6 c7 f7 c8 f8 HO HT HS HP HST HB HRE
      generalize w.drewN nq = W at SQ BQ KQ RQ ⊢
      obtain ⟨At, ct, Ab, cb, ho, htk, hbs, hap⟩ := SQ.out
      have HO := hid ho
      have HT := hid htk
      have HS := hid hbs
      have HP := hid hap
      clear ho htk hbs hap
      clear HS HP
      have c0 := HO.out.cellAt 0 (by omega)
      have c1 := HO.out.cellAt 1 (by omega)
      have c2 := HO.out.cellAt 2 (by omega)
      have c3 := HO.out.cellAt 3 (by omega)
      have c4 := HO.out.cellAt 4 (by omega)
      have c5 := HO.out.cellAt 5 (by omega)
      have c6 := HO.out.cellAt 6 (by omega)
      have c7 := HO.out.cellAt 7 (by omega)
      have c8 := HO.out.cellAt 8 (by omega)
      have f0 := HO.out.frozenAt 0
      have f1 := HO.out.frozenAt 1
      have f2 := HO.out.frozenAt 2
      have f3 := HO.out.frozenAt 3
      have f4 := HO.out.frozenAt 4
      have f5 := HO.out.frozenAt 5
      have f6 := HO.out.frozenAt 6
      have f7 := HO.out.frozenAt 7
      have f8 := HO.out.frozenAt 8
      simp only [List.getElem?_cons_zero, List.getElem?_cons_succ] at c0 c1 c2 c3 c4 c5 c6 c7 c8
      refine wp_region_T (fun w' => w'.cell? ⟨b, 4, none⟩ = some (.slice At t.length ct) ∧ w'.cell? ⟨b, 5, none⟩ = some (.int .i64 s)) [14] (by kernel_rfl) ⟨c4, c5⟩ (fun hHeld => ?_)
      refine wpAnyT_takeW (i := 0) (oi := ⟨some 35, _, _, _, _, _⟩) (v := ?_) rfl (by kernel_rfl) (by kernel_rfl) (by kernel_rfl) (by kernel_rfl) (fun _ _ _ h => h) (Or.inl ⟨by rfl, ?_⟩) (by assumption) ?_
      rotate_left
      · (intro w hSw; go_simp; try with_reducible rfl)
      try simp only [Act.put, List.setIfInBounds_toArray, List.set_cons_zero, List.set_cons_succ]
      refine wpAnyT_takeW (i := 1) (oi := ⟨some 36, _, _, _, _, _⟩) (v := ?_) rfl (by kernel_rfl) (by kernel_rfl) (by kernel_rfl) (by kernel_rfl) (fun _ _ _ h => h) (Or.inl ⟨by rfl, ?_⟩) (by assumption) ?_
      rotate_left
      · (intro w hSw; go_simp; try with_reducible rfl)
      try simp only [Act.put, List.setIfInBounds_toArray, List.set_cons_zero, List.set_cons_succ]
      refine wpAnyT_takeW (i := 2) (oi := ⟨some 37, _, _, _, _, _⟩) (v := ?_) rfl (by kernel_rfl) (by kernel_rfl) (by kernel_rfl) (by kernel_rfl) (fun _ _ _ h => h) (Or.inl ⟨by rfl, ?_⟩) (by assumption) ?_
      rotate_left
      · (intro w hSw; go_simp; try with_reducible rfl)
      try simp only [Act.put, List.setIfInBounds_toArray, List.set_cons_zero, List.set_cons_succ]
      refine wpAnyT_takeW (i := 3) (oi := ⟨some 38, _, _, _, _, _⟩) (v := ?_) rfl (by kernel_rfl) (by kernel_rfl) (by kernel_rfl) (by kernel_rfl) (fun _ _ _ h => h) (Or.inl ⟨by rfl, ?_⟩) (by assumption) ?_
      rotate_left
      · (intro w hSw; go_simp; try with_reducible rfl)
      try simp only [Act.put, List.setIfInBounds_toArray, List.set_cons_zero, List.set_cons_succ]
      refine wpAnyT_takeW (i := 4) (oi := ⟨some 39, _, _, _, _, _⟩) (v := ?_) rfl (by kernel_rfl) (by kernel_rfl) (by kernel_rfl) (by kernel_rfl) (fun _ _ _ h => h) (Or.inl ⟨by rfl, ?_⟩) (by assumption) ?_
      rotate_left
      · (intro w hSw; go_simp; try with_reducible rfl)
      try simp only [Act.put, List.setIfInBounds_toArray, List.set_cons_zero, List.set_cons_succ]
      refine wpAnyT_takeW (i := 5) (oi := ⟨some 40, _, _, _, _, _⟩) (v := ?_) rfl (by kernel_rfl) (by kernel_rfl) (by kernel_rfl) (by kernel_rfl) (fun _ _ _ h => h) (Or.inl ⟨by rfl, ?_⟩) (by assumption) ?_
      rotate_left
      · (intro w hSw; go_simp; try with_reducible rfl)
      try simp only [Act.put, List.setIfInBounds_toArray, List.set_cons_zero, List.set_cons_succ]
      refine wpAnyT_take (i := 6) (oi := ⟨some 41, _, _, _, _, _⟩) (v := ?_) rfl (by kernel_rfl) (by kernel_rfl) (by kernel_rfl) (by kernel_rfl) (by kernel_rfl) (by kernel_rfl) (fun _ _ _ h => h) (Or.inl ⟨by rfl, ?_⟩) (by assumption) ?_
      rotate_left
      · (intro w hSw; (try dsimp only at hSw); go_simp; try with_reducible rfl)
      try simp only [Act.put, List.setIfInBounds_toArray, List.set_cons_zero, List.set_cons_succ]
      refine wpAnyT_takeW (i := 8) (oi := ⟨some 43, _, _, _, _, _⟩) (v := ?_) rfl (by kernel_rfl) (by kernel_rfl) (by kernel_rfl) (by kernel_rfl) (fun _ _ _ h => h) (Or.inl ⟨by rfl, ?_⟩) (by assumption) ?_
      rotate_left
      · (intro w hSw; go_simp; try with_reducible rfl)
      try simp only [Act.put, List.setIfInBounds_toArray, List.set_cons_zero, List.set_cons_succ]
      refine wpAnyT_takeW (i := 9) (oi := ⟨some 44, _, _, _, _, _⟩) (v := ?_) rfl (by kernel_rfl) (by kernel_rfl) (by kernel_rfl) (by kernel_rfl) (fun _ _ _ h => h) (Or.inl ⟨by rfl, ?_⟩) (by assumption) ?_
      rotate_left
      · (intro w hSw; go_simp; try with_reducible rfl)
      try simp only [Act.put, List.setIfInBounds_toArray, List.set_cons_zero, List.set_cons_succ]
      refine wpAnyT_takeW (i := 10) (oi := ⟨some 45, _, _, _, _, _⟩) (v := ?_) rfl (by kernel_rfl) (by kernel_rfl) (by kernel_rfl) (by kernel_rfl) (fun _ _ _ h => h) (Or.inl ⟨by rfl, ?_⟩) (by assumption) ?_
      rotate_left
      · (intro w hSw; go_simp; try with_reducible rfl)
      try simp only [Act.put, List.setIfInBounds_toArray, List.set_cons_zero, List.set_cons_succ]
      refine wpAnyT_take (i := 11) (oi := ⟨some 46, _, _, _, _, _⟩) (v := ?_) rfl (by kernel_rfl) (by kernel_rfl) (by kernel_rfl) (by kernel_rfl) (by kernel_rfl) (by kernel_rfl) (fun _ _ _ h => h) (Or.inl ⟨by rfl, ?_⟩) (by assumption) ?_
      rotate_left
      · (intro w hSw; (try dsimp only at hSw); go_simp; try with_reducible rfl)
      try simp only [Act.put, List.setIfInBounds_toArray, List.set_cons_zero, List.set_cons_succ]
      refine wpAnyT_ready (rs := [7]) (by kernel_rfl) (by simp) ?_
      refine AllReadyT.cons (o := ⟨some 42, _, _, _, _, _⟩) rfl (fun K hK => ?_) AllReadyT.nil
      go_simp
      go_at_call 137
      refine (gcloneT_ok At ct t _ (B := b + 1) (show W.drew.ownsRow (b + 1) 2 1 (.slice At t.length ct) t.length (tV t) from HT.out) (by omega)).mono ?_
      rintro e w3 ⟨A3, c3', rfl, ho3, hb3⟩
      have N3 := hid ho3
      have R3 := hid (glu_best (M := fun g => g = r) (W := W.drew) HO.out HT.out N3.out hb3)
      have O3 := hid (own_below (w := W.drew) HO.out hb3)
      have B3 := hid hb3
      clear c0 f0 c1 f1 c2 f2 c3 f3 c4 f4 c5 f5 c6 f6 c7 f7 c8 f8
      have c4 := O3.out.cellAt 4 (by omega)
      have c5 := O3.out.cellAt 5 (by omega)
      have c6 := O3.out.cellAt 6 (by omega)
      have f6 := O3.out.frozenAt 6
      have c7 := O3.out.cellAt 7 (by omega)
      have f7 := O3.out.frozenAt 7
      have c8 := O3.out.cellAt 8 (by omega)
      have f8 := O3.out.frozenAt 8
      simp only [List.getElem?_cons_zero, List.getElem?_cons_succ] at c4 c5 c6 c7 c8
      clear ho3 hb3
      (try go_wp2_with fail)
      refine hK.out _ _ (⟨c4, c5⟩) (fun hHeld => ?_)
      clear hK K
      try simp only [Act.put, List.setIfInBounds_toArray, List.set_cons_zero, List.set_cons_succ]
      refine wpAnyT_takeW (i := 12) (oi := ⟨some 47, _, _, _, _, _⟩) (v := ?_) rfl (by kernel_rfl) (by kernel_rfl) (by kernel_rfl) (by kernel_rfl) (fun _ _ _ h => h) (Or.inl ⟨by rfl, ?_⟩) (by assumption) ?_
      rotate_left
      · (intro w hSw; go_simp; try with_reducible rfl)
      try simp only [Act.put, List.setIfInBounds_toArray, List.set_cons_zero, List.set_cons_succ]
      refine wpAnyT_takeW (i := 13) (oi := ⟨some 48, _, _, _, _, _⟩) (v := ?_) rfl (by kernel_rfl) (by kernel_rfl) (by kernel_rfl) (by kernel_rfl) (fun _ _ _ h => h) (Or.inl ⟨by rfl, ?_⟩) (by assumption) ?_
      rotate_left
      · (intro w hSw; go_simp; try with_reducible rfl)
      try simp only [Act.put, List.setIfInBounds_toArray, List.set_cons_zero, List.set_cons_succ]
      refine wpAnyT_ready (rs := [14]) (by kernel_rfl) (by simp) ?_
      refine AllReadyT.consB (o := ⟨none, _, _, _, _, _⟩) rfl (by kernel_rfl) (fun K hK => ?_) AllReadyT.nil
      go_simp
      refine hK.out _ _ ?_
      clear hK K
      try simp only [Act.put, List.setIfInBounds_toArray, List.set_cons_zero, List.set_cons_succ]
      refine wpAnyT_takeV (i := 15) (oi := ⟨some 49, _, _, _, _, _⟩) (v := ?_) rfl (by kernel_rfl) (by kernel_rfl) (by kernel_rfl) (by kernel_rfl) (by kernel_rfl) (fun _ _ _ h => h) (Or.inl ⟨by rfl, ?_⟩) ?_
      rotate_left
      · (intro w hSw; go_simp; try with_reducible rfl)
      try simp only [Act.put, List.setIfInBounds_toArray, List.set_cons_zero, List.set_cons_succ]
      refine wpAnyT_takeV (i := 16) (oi := ⟨some 50, _, _, _, _, _⟩) (v := ?_) rfl (by kernel_rfl) (by kernel_rfl) (by kernel_rfl) (by kernel_rfl) (by kernel_rfl) (fun _ _ _ h => h) (Or.inl ⟨by rfl, ?_⟩) ?_
      rotate_left
      · (intro w hSw; go_simp; try with_reducible rfl)
      try simp only [Act.put, List.setIfInBounds_toArray, List.set_cons_zero, List.set_cons_succ]
      refine wpAnyT_ready (rs := [17]) (by kernel_rfl) (by simp) ?_
      refine AllReadyT.consB (o := ⟨none, _, _, _, _, _⟩) rfl (by kernel_rfl) (fun K hK => ?_) AllReadyT.nil
      go_simp
      refine hK.out _ _ ?_
      clear hK K
      try simp only [Act.put, List.setIfInBounds_toArray, List.set_cons_zero, List.set_cons_succ]
      refine wpAnyT_takeV (i := 18) (oi := ⟨some 51, _, _, _, _, _⟩) (v := ?_) rfl (by kernel_rfl) (by kernel_rfl) (by kernel_rfl) (by kernel_rfl) (by kernel_rfl) (fun _ _ _ h => h) (Or.inl ⟨by rfl, ?_⟩) ?_
      rotate_left
      · (intro w hSw; go_simp; try with_reducible rfl)
      try simp only [Act.put, List.setIfInBounds_toArray, List.set_cons_zero, List.set_cons_succ]
      refine wpAnyT_takeV (i := 19) (oi := ⟨some 52, _, _, _, _, _⟩) (v := ?_) rfl (by kernel_rfl) (by kernel_rfl) (by kernel_rfl) (by kernel_rfl) (by kernel_rfl) (fun _ _ _ h => h) (Or.inl ⟨by rfl, ?_⟩) ?_
      rotate_left
      · (intro w hSw; go_simp; try with_reducible rfl)
      try simp only [Act.put, List.setIfInBounds_toArray, List.set_cons_zero, List.set_cons_succ]
      refine wpAnyT_ready (rs := [20]) (by kernel_rfl) (by simp) ?_
      refine AllReadyT.consB (o := ⟨none, _, _, _, _, _⟩) rfl (by kernel_rfl) (fun K hK => ?_) AllReadyT.nil
      go_simp
      refine hK.out _ _ ?_
      clear hK K
      try simp only [Act.put, List.setIfInBounds_toArray, List.set_cons_zero, List.set_cons_succ]
      refine wpAnyT_done (by kernel_rfl) ?_ _
      go_wp2_with fail
      go_ret
      refine ⟨⟨BQ.out.drew.trans (R3.out.1.2.mono (by omega)), KQ.out.drew.trans R3.out.2⟩, RestAt.under (w := W.drew) RQ.out R3.out.1.2 hrb, ?_⟩
      rw [HR.out, HL.out]
      refine ⟨rfl, hl, ?_⟩
      rw [mostF_of hs0, decide_eq_true hs0]
      exact R3.out.1.1
    · have HL := hid (show leafG S t s = S by unfold leafG; rw [if_neg (by omega)])
      clear hm0
      go_enter Try.func113, Try.ntmps113
      go_wp2_with fail
      go_quiet (fail)
      go_wp2_with fail
      go_ret
      refine ⟨⟨below_drewN' HB.out _, (Kept.refl _ _ _ _).drewN _⟩, HRE.out, ?_⟩
      rw [HR.out, HL.out]
      exact ⟨rfl, hl, HST.out.drewN _⟩

set_option maxHeartbeats 12800000 in
set_option maxRecDepth 100000 in
theorem glu_step (xs : List DPot) (ns : List Int) (A : Option Addr) (c : Nat) (N : Option Addr) (cN b r cr : Nat) (w0 : World) (hA : RowsAt w0 5 A (xs.map DPot.cells)) (hN : IntsAt w0 N ns) (hX : ∀ x ∈ xs, potD0 x) (hn : xs.length ≤ 8) (hns : ∀ n ∈ ns, 1 ≤ n ∧ n ≤ 10000) (hnn : ns.length ≤ 10) (hr0 : w0.heap.size ≤ r) (hrb : r < b) (hcr : xs.length ≤ cr) (m' : Nat) (ih : ∀ (rest : List Int) (t : List Nat) (s : Int) (S : WS) (w : World), t.length + m' = ns.length → rest.length = xs.length → RestOk rest → (0 ≤ s ∧ s ≤ 1000 * (t.length : Int)) → S.left ≤ 20000 → Below w0.heap.size w0 w → GluS b (.slice A xs.length c) (.slice N ns.length cN) (.slice (some ⟨r, 0, none⟩) xs.length cr) (S.left : Int) t s S.best (mostF S.most) (decide (0 ≤ S.most)) w → RestAt r cr rest w →
    Calls Try.prog 113 #[.pointer (some ⟨b, 0, none⟩)] w (GPost b r cr w0 w (.slice A xs.length c) (.slice N ns.length cN) (.slice (some ⟨r, 0, none⟩) xs.length cr) (srchG xs ns m' rest t s S) rest t s)) : ∀ (rest : List Int) (t : List Nat) (s : Int) (S : WS) (w : World), t.length + (m' + 1) = ns.length → rest.length = xs.length → RestOk rest → (0 ≤ s ∧ s ≤ 1000 * (t.length : Int)) → S.left ≤ 20000 → Below w0.heap.size w0 w → GluS b (.slice A xs.length c) (.slice N ns.length cN) (.slice (some ⟨r, 0, none⟩) xs.length cr) (S.left : Int) t s S.best (mostF S.most) (decide (0 ≤ S.most)) w → RestAt r cr rest w →
    Calls Try.prog 113 #[.pointer (some ⟨b, 0, none⟩)] w (GPost b r cr w0 w (.slice A xs.length c) (.slice N ns.length cN) (.slice (some ⟨r, 0, none⟩) xs.length cr) (srchG xs ns (m' + 1) rest t s S) rest t s) := by
  intro rest t s S w hm hrl hro hs hl hbl hst hre
  have HA := hid hA
  have HN := hid hN
  have HX := hid hX
  have HNS := hid hns
  have HIH := hid ih
  have HRO := hid hro
  have HRL := hid hrl
  have HB := hid hbl
  have HST := hid hst
  have HRE := hid hre
  have hbw := hst.lt
  obtain ⟨hs0, hs1⟩ := hs
  have htl : t.length < ns.length := by omega
  have d1 : ((t.length : Int) == (ns.length : Int)) = false := by rw [beq_eq_false_iff_ne]; omega
  have HM2 := hid (show t.length + 1 + m' = ns.length by omega)
  have HR := hid (show srchG xs ns (m' + 1) rest t s S = loopO (fun k S2 => if restI rest k < needI ns t.length then some S2 else if S2.left = 0 then none else srchG xs ns m' (rest.set k (restI rest k - needI ns t.length)) (t ++ [k]) (s + strI xs k) ⟨S2.left - 1, S2.best, S2.most⟩) xs.length 0 S from rfl)
  clear hA hN hX hns ih hm hro hrl hbl hst hre
  obtain ⟨At, ct, Ab, cb, ho, htk, hbs, hap⟩ := HST.out
  have HO := hid ho
  have HT := hid htk
  have HS := hid hbs
  have HP := hid hap
  clear ho htk hbs hap
  have c0 := HO.out.cellAt 0 (by omega)
  have c1 := HO.out.cellAt 1 (by omega)
  have c2 := HO.out.cellAt 2 (by omega)
  have c3 := HO.out.cellAt 3 (by omega)
  have c4 := HO.out.cellAt 4 (by omega)
  have c5 := HO.out.cellAt 5 (by omega)
  have c6 := HO.out.cellAt 6 (by omega)
  have c7 := HO.out.cellAt 7 (by omega)
  have c8 := HO.out.cellAt 8 (by omega)
  have f0 := HO.out.frozenAt 0
  have f1 := HO.out.frozenAt 1
  have f2 := HO.out.frozenAt 2
  have f3 := HO.out.frozenAt 3
  have f4 := HO.out.frozenAt 4
  have f5 := HO.out.frozenAt 5
  have f6 := HO.out.frozenAt 6
  have f7 := HO.out.frozenAt 7
  have f8 := HO.out.frozenAt 8
  simp only [List.getElem?_cons_zero, List.getElem?_cons_succ] at c0 c1 c2 c3 c4 c5 c6 c7 c8
  go_enter Try.func113, Try.ntmps113
  go_wp2_with fail
  go_loopw [58] (fun i wr => ∃ (k : Nat) (S2 : WS), (k ≤ xs.length ∧ i = .int .i64 k) ∧ Hid (srchG xs ns (m' + 1) rest t s S = loopO (fun k S2 => if restI rest k < needI ns t.length then some S2 else if S2.left = 0 then none else srchG xs ns m' (rest.set k (restI rest k - needI ns t.length)) (t ++ [k]) (s + strI xs k) ⟨S2.left - 1, S2.best, S2.most⟩) (xs.length - k) k S2) ∧ S2.left ≤ 20000 ∧ (Below w0.heap.size w0 wr ∧ Kept b 4 (fun g => g = r) w wr) ∧ GluS b (.slice A xs.length c) (.slice N ns.length cN) (.slice (some ⟨r, 0, none⟩) xs.length cr) (S2.left : Int) t s S2.best (mostF S2.most) (decide (0 ≤ S2.most)) wr ∧ RestAt r cr rest wr) (fun i _ => xs.length - (intOf i).toNat)
  case atStart => exact ⟨0, S, ⟨Nat.zero_le _, rfl⟩, HR.out, hl, ⟨HB.out, Kept.refl _ _ _ _⟩, HST.out, HRE.out⟩
  case round =>
    clear c0 f0 c1 f1 c2 f2 c3 f3 c4 f4 c5 f5 c6 f6 c7 f7 c8 f8 HO HT HS HP d1 HST HB HR HRE
    obtain ⟨k, S2, ⟨hk, rfl⟩, HE, hl2, ⟨hbr, hkr⟩, hst, hre⟩ := hrel
    have SR := hid hst
    have BR := hid hbr
    have KR := hid hkr
    have RR := hid hre
    have hbr2 := hst.lt
    clear hst hbr hkr hre
    by_cases hkl : k < xs.length
    · obtain ⟨ab, ao, hAe, hlt, hc⟩ := HA.out (by intro e; rw [List.map_eq_nil_iff] at e; rw [e] at hkl; exact absurd hkl (by simp))
      obtain ⟨nb, no, hNe, hnlt, hnc⟩ := HN.out (by intro e; rw [e] at htl; exact absurd htl (by simp))
      subst hAe hNe
      have hle : xs.length - k = (xs.length - (k + 1)) + 1 := by omega
      have hkr2 : k < rest.length := by have := HRL.out; omega
      obtain ⟨x, hx⟩ : ∃ x, x = xs[k] := ⟨_, rfl⟩
      obtain ⟨nk, hnk⟩ : ∃ n, ns[t.length] = n := ⟨_, rfl⟩
      obtain ⟨rk, hrk⟩ : ∃ n, rest[k] = n := ⟨_, rfl⟩
      have hci : (xs.map DPot.cells)[k]? = some x.cells := by rw [List.getElem?_map, List.getElem?_eq_getElem hkl, hx]; rfl
      have x0 : wr.cell? ⟨ab, ao + k * 5, none⟩ = some (.string x.fId) := (BR.out.cell (p := ⟨ab, ao + k * 5, none⟩) hlt).trans (hc k _ hci 0 _ rfl)
      have x1 : wr.cell? ⟨ab, ao + k * 5 + 1, none⟩ = some (.int .i64 x.fDry) := (BR.out.cell (p := ⟨ab, ao + k * 5 + 1, none⟩) hlt).trans (hc k _ hci 1 _ rfl)
      have x2 : wr.cell? ⟨ab, ao + k * 5 + 2, none⟩ = some (.int .i64 x.fWater) := (BR.out.cell (p := ⟨ab, ao + k * 5 + 2, none⟩) hlt).trans (hc k _ hci 2 _ rfl)
      have x3 : wr.cell? ⟨ab, ao + k * 5 + 3, none⟩ = some (.int .i64 x.fHeat) := (BR.out.cell (p := ⟨ab, ao + k * 5 + 3, none⟩) hlt).trans (hc k _ hci 3 _ rfl)
      have x4 : wr.cell? ⟨ab, ao + k * 5 + 4, none⟩ = some (.int .i64 x.fHours) := (BR.out.cell (p := ⟨ab, ao + k * 5 + 4, none⟩) hlt).trans (hc k _ hci 4 _ rfl)
      have HNC := hid (show w0.cell? ⟨nb, no + t.length, none⟩ = some (.int .i64 nk) from (hnc t.length nk (by rw [← hnk]; exact List.getElem?_eq_getElem htl)))
      have HXK := hid (show potD0 x by rw [hx]; exact HX.out _ (List.getElem_mem hkl))
      have HSI := hid (show strI xs k = strong x by rw [hx]; exact strI_at hkl)
      obtain ⟨sx0, sx1⟩ := strong_bd HXK.out
      have hnb := HNS.out ns[t.length] (List.getElem_mem htl)
      have hrb2 := HRO.out rest[k] (List.getElem_mem hkr2)
      rw [hnk] at hnb
      rw [hrk] at hrb2
      obtain ⟨nk0, nk1⟩ := hnb
      obtain ⟨rk0, rk1⟩ := hrb2
      have HRI := hid (show restI rest k = rk by rw [restI_at hkr2, hrk])
      have HNI := hid (show needI ns t.length = nk by rw [needI_at htl, hnk])
      have HBK := hid (show (rest.set k (rk - nk)).set k rk = rest by rw [← hrk]; exact rest_back hkr2)
      have HRC := hid (show ∀ W, RestAt r cr rest W → W.cell? ⟨r, k, none⟩ = some (.int .i64 rk) ∧ W.frozen? ⟨r, k, none⟩ = false from fun W h => by rw [← hrk]; exact h.cell hkr2)
      have q0 : (0 : Int) ≤ (k : Int) := by omega
      have q1 : (k : Int) < xs.length := by omega
      have z0 : (0 : Int) ≤ (t.length : Int) := by omega
      have z1 : (t.length : Int) < ns.length := by omega
      have v1 : IntKind.i64.wrap (rk - nk) = rk - nk := IntWalk.i64_in _ (by omega)
      have v2 : IntKind.i64.wrap (s + strong x) = s + strong x := IntWalk.i64_in _ (by omega)
      have v3 : IntKind.i64.wrap (s + strong x - strong x) = s := by rw [IntWalk.i64_in _ (by omega)]; omega
      have v4 : IntKind.i64.wrap s = s := IntWalk.i64_in _ (by omega)
      have v5 : IntKind.i64.wrap (rk - nk + nk) = rk := by rw [IntWalk.i64_in _ (by omega)]; omega
      have v6 : IntKind.i64.wrap rk = rk := IntWalk.i64_in _ (by omega)
      have S3 := hid (SR.out.below (below_alloc wr (.cells #[.string x.fId, .int .i64 x.fDry, .int .i64 x.fWater, .int .i64 x.fHeat, .int .i64 x.fHours] 162)))
      have B3 := hid (BR.out.alloc BR.out.size (.cells #[.string x.fId, .int .i64 x.fDry, .int .i64 x.fWater, .int .i64 x.fHeat, .int .i64 x.fHours] 162))
      have K3 := hid (KR.out.trans (Kept.of_below hbr2 (below_alloc wr (.cells #[.string x.fId, .int .i64 x.fDry, .int .i64 x.fWater, .int .i64 x.fHeat, .int .i64 x.fHours] 162))))
      have R3 := hid (show RestAt r cr rest (wr.alloc (.cells #[.string x.fId, .int .i64 x.fDry, .int .i64 x.fWater, .int .i64 x.fHeat, .int .i64 x.fHours] 162)) from own_below RR.out (below_alloc _ _))
      have NC := hid (HasC.new wr [.string x.fId, .int .i64 x.fDry, .int .i64 x.fWater, .int .i64 x.fHeat, .int .i64 x.fHours] 162)
      have X3 := hid (show PX wr.heap.size b r [.string x.fId, .int .i64 x.fDry, .int .i64 x.fWater, .int .i64 x.fHeat, .int .i64 x.fHours] (wr.alloc (.cells #[.string x.fId, .int .i64 x.fDry, .int .i64 x.fWater, .int .i64 x.fHeat, .int .i64 x.fHours] 162)) from ⟨NC.out.1, by
        obtain ⟨At, ct, Ab, cb, ho, htk, -, -⟩ := SR.out
        rw [blkAt_of ((ho.alloc (.cells #[.string x.fId, .int .i64 x.fDry, .int .i64 x.fWater, .int .i64 x.fHeat, .int .i64 x.fHours] 162)).cellAt 4 (by omega))]
        intro e
        have := (htk.lt _ e).2
        omega, NC.out.2⟩)
      have hpb : b < wr.heap.size := hbr2
      clear hc hnc hx hnk hrk hci NC
      go_upto_region 9 with fail
      generalize wr.alloc (.cells #[.string x.fId, .int .i64 x.fDry, .int .i64 x.fWater, .int .i64 x.fHeat, .int .i64 x.fHours] 162) = W3 at S3 B3 K3 R3 X3 ⊢
      generalize wr.heap.size = pb at X3 hpb ⊢
      clear x0 x1 x2 x3 x4
      obtain ⟨At, ct, Ab, cb, ho, htk, hbs, hap⟩ := S3.out
      have HO := hid ho
      have HT := hid htk
      have HS := hid hbs
      have HP := hid hap
      clear ho htk hbs hap
      have c1 := HO.out.cellAt 1 (by omega)
      have c2 := HO.out.cellAt 2 (by omega)
      have c3 := HO.out.cellAt 3 (by omega)
      have f1 := HO.out.frozenAt 1
      have f2 := HO.out.frozenAt 2
      have f3 := HO.out.frozenAt 3
      simp only [List.getElem?_cons_zero, List.getElem?_cons_succ] at c1 c2 c3
      obtain ⟨rc, rf⟩ := HRC.out _ R3.out
      have n0 := (B3.out.cell (p := ⟨nb, no + t.length, none⟩) hnlt).trans HNC.out
      go_wp2_with fail
      by_cases hroom : rk < nk
      · have HEN := hid (show srchG xs ns (m' + 1) rest t s S = loopO (fun k S2 => if restI rest k < needI ns t.length then some S2 else if S2.left = 0 then none else srchG xs ns m' (rest.set k (restI rest k - needI ns t.length)) (t ++ [k]) (s + strI xs k) ⟨S2.left - 1, S2.best, S2.most⟩) (xs.length - (k + 1)) (k + 1) S2 by
          rw [HE.out, hle]
          exact loopO_some (by rw [HRI.out, HNI.out, if_pos hroom]))
        go_quiet (fail)
        go_wp2_with fail
        go_roundw
        case rel => exact ⟨k + 1, S2, ⟨by omega, by go_num⟩, HEN.out, hl2, ⟨below_drewN' B3.out _, K3.out.drewN _⟩, S3.out.drewN _, R3.out⟩
        case measure => simp [intOf]; omega
      · go_quiet (fail)
        have S4 := hid (S3.out.drewN nq)
        have B4 := hid (below_drewN' B3.out nq)
        have K4 := hid (K3.out.drewN nq)
        have R4 := hid (show RestAt r cr rest (W3.drewN nq) from R3.out)
        have X4 := hid (X3.out.kept ((Kept.refl b 4 (fun g => g = r) W3).drewN nq) hpb hrb)
        clear c1 f1 c2 f2 c3 f3 rc rf n0 HO HT HS HP S3 B3 K3 R3 X3 At ct Ab cb
        generalize W3.drewN nq = W4 at S4 B4 K4 R4 X4 ⊢
        obtain ⟨At, ct, Ab, cb, ho, htk, hbs, hap⟩ := S4.out
        have HO := hid ho
        have HT := hid htk
        have HS := hid hbs
        have HP := hid hap
        clear ho htk hbs hap
        have c3 := HO.out.cellAt 3 (by omega)
        have f3 := HO.out.frozenAt 3
        simp only [List.getElem?_cons_zero, List.getElem?_cons_succ] at c3
        by_cases hl0 : S2.left = 0
        · have HEN := hid (show srchG xs ns (m' + 1) rest t s S = none by
            rw [HE.out, hle]
            exact loopO_none (by rw [HRI.out, HNI.out, if_neg hroom, if_pos hl0]))
          have d2 : ((S2.left : Int) == 0) = true := by rw [beq_iff_eq]; omega
          clear hl0
          go_wp2_with fail
          go_ret
          refine ⟨⟨B4.out, K4.out⟩, R4.out, ?_⟩
          rw [HEN.out]
          exact ⟨rfl, _, _, _, _, S4.out⟩
        · have d2 : ((S2.left : Int) == 0) = false := by rw [beq_eq_false_iff_ne]; omega
          have hl1 : 1 ≤ S2.left := by omega
          have HF := hid (show (fun k S2 => if restI rest k < needI ns t.length then some S2 else if S2.left = 0 then none else srchG xs ns m' (rest.set k (restI rest k - needI ns t.length)) (t ++ [k]) (s + strI xs k) ⟨S2.left - 1, S2.best, S2.most⟩) k S2 = srchG xs ns m' (rest.set k (rk - nk)) (t ++ [k]) (s + strong x) ⟨S2.left - 1, S2.best, S2.most⟩ by
            show (if restI rest k < needI ns t.length then some S2 else if S2.left = 0 then none else srchG xs ns m' (rest.set k (restI rest k - needI ns t.length)) (t ++ [k]) (s + strI xs k) ⟨S2.left - 1, S2.best, S2.most⟩) = _
            rw [HRI.out, HNI.out, HSI.out, if_neg hroom, if_neg hl0])
          have hcast : ((S2.left : Int) - 1) = ((S2.left - 1 : Nat) : Int) := by omega
          obtain ⟨⟨sb, sk⟩, sg⟩ := S4.out.setLeft (M := fun g => g = r) ((S2.left : Int) - 1)
          have S5 := hid (show GluS b (.slice (some ⟨ab, ao, none⟩) xs.length c) (.slice (some ⟨nb, no, none⟩) ns.length cN) (.slice (some ⟨r, 0, none⟩) xs.length cr) ((S2.left - 1 : Nat) : Int) t s S2.best (mostF S2.most) (decide (0 ≤ S2.most)) (W4.setCell ⟨b, 3, none⟩ (.int .i64 ((S2.left : Int) - 1))) by rw [← hcast]; exact sg)
          have B5 := hid (B4.out.trans (sb.mono (by omega)))
          have K5 := hid (K4.out.trans sk)
          have R5 := hid (R4.out.under sb hrb)
          have X5 := hid (X4.out.kept sk hpb hrb)
          have hrm := hid hroom
          clear hl0 sb sk sg hcast hroom
          go_upto_region 13 with fail
          generalize W4.setCell ⟨b, 3, none⟩ (.int .i64 ((S2.left : Int) - 1)) = W5 at S5 B5 K5 R5 X5 ⊢
          clear c3 f3 d2 HO HT HS HP S4 B4 K4 R4 X4 At ct Ab cb
          obtain ⟨At, ct, Ab, cb, ho, htk, hbs, hap⟩ := S5.out
          have HO := hid ho
          have HT := hid htk
          have HS := hid hbs
          have HP := hid hap
          clear ho htk hbs hap
          have c1 := HO.out.cellAt 1 (by omega)
          have c2 := HO.out.cellAt 2 (by omega)
          have f1 := HO.out.frozenAt 1
          have f2 := HO.out.frozenAt 2
          simp only [List.getElem?_cons_zero, List.getElem?_cons_succ] at c1 c2
          obtain ⟨rc, rf⟩ := HRC.out _ R5.out
          have n0 := (B5.out.cell (p := ⟨nb, no + t.length, none⟩) hnlt).trans HNC.out
          have hrlt := R5.out.lt
          have hr0' : rk - nk ≤ 20000 := by omega
          have hr1' : 0 ≤ rk - nk := by have := hrm.out; omega
          have S6 := hid ((S5.out.low (p := ⟨r, k, none⟩) hrb (.int .i64 (rk - nk))).drew)
          have B6 := hid ((B5.out.setCell (p := ⟨r, k, none⟩) hr0 (.int .i64 (rk - nk))).drew)
          have K6 := hid ((K5.out.trans (Kept.storeM (s := 4) (M := fun g => g = r) (g := r) (i := k) (v := .int .i64 (rk - nk)) rfl (by omega))).drew)
          have R6 := hid (show RestAt r cr (rest.set k (rk - nk)) (W5.setCell ⟨r, k, none⟩ (.int .i64 (rk - nk))).drew from R5.out.set (rk - nk))
          have X6 := hid (X5.out.kept (Kept.storeM (s := 4) (M := fun g => g = r) (g := r) (i := k) (v := .int .i64 (rk - nk)) rfl (by omega)).drew hpb hrb)
          have HRO2 := hid (HRO.out.set (k := k) (v := rk - nk) ⟨hr1', hr0'⟩)
          go_region
          generalize (W5.setCell ⟨r, k, none⟩ (.int .i64 (rk - nk))).drew = W6 at S6 B6 K6 R6 X6 ⊢
          clear c1 f1 c2 f2 rc rf n0 HO HT HS HP S5 B5 K5 R5 X5 At ct Ab cb
          obtain ⟨At, ct, Ab, cb, ho, htk, hbs, hap⟩ := S6.out
          have HO := hid ho
          have HT := hid htk
          have HS := hid hbs
          have HP := hid hap
          clear ho htk hbs hap
          have c4 := HO.out.cellAt 4 (by omega)
          have c5 := HO.out.cellAt 5 (by omega)
          have f4 := HO.out.frozenAt 4
          have f5 := HO.out.frozenAt 5
          simp only [List.getElem?_cons_zero, List.getElem?_cons_succ] at c4 c5
          have x0 := X6.out.cell 0 _ rfl
          have x1 := X6.out.cell 1 _ rfl
          have x2 := X6.out.cell 2 _ rfl
          have x3 := X6.out.cell 3 _ rfl
          have x4 := X6.out.cell 4 _ rfl
          have hbW6 := S6.out.lt
          have hpl := X6.out.lt
          have HXB := hid X6.out.ne
          have X6' := hid X6.out.cell
          go_wp2_with fail
          refine wp_region_T (fun w' => (w'.cell? ⟨b, 4, none⟩ = some (.slice At t.length ct) ∧ w'.cell? ⟨b, 5, none⟩ = some (.int .i64 s)) ∧ (w'.cell? ⟨pb, 0, none⟩ = some (.string x.fId) ∧ w'.cell? ⟨pb, 1, none⟩ = some (.int .i64 x.fDry) ∧ w'.cell? ⟨pb, 2, none⟩ = some (.int .i64 x.fWater) ∧ w'.cell? ⟨pb, 3, none⟩ = some (.int .i64 x.fHeat) ∧ w'.cell? ⟨pb, 4, none⟩ = some (.int .i64 x.fHours))) [18] (by kernel_rfl) ⟨⟨c4, c5⟩, x0, x1, x2, x3, x4⟩ (fun hHeld => ?_)
          refine wpAnyT_takeW (i := 0) (oi := ⟨some 106, _, _, _, _, _⟩) (v := ?_) rfl (by kernel_rfl) (by kernel_rfl) (by kernel_rfl) (by kernel_rfl) (fun _ _ _ h => h) (Or.inl ⟨by rfl, ?_⟩) (by assumption) ?_
          rotate_left
          · (intro w hSw; go_simp; try with_reducible rfl)
          try simp only [Act.put, List.setIfInBounds_toArray, List.set_cons_zero, List.set_cons_succ]
          refine wpAnyT_takeW (i := 1) (oi := ⟨some 107, _, _, _, _, _⟩) (v := ?_) rfl (by kernel_rfl) (by kernel_rfl) (by kernel_rfl) (by kernel_rfl) (fun _ _ _ h => h) (Or.inl ⟨by rfl, ?_⟩) (by assumption) ?_
          rotate_left
          · (intro w hSw; go_simp; try with_reducible rfl)
          try simp only [Act.put, List.setIfInBounds_toArray, List.set_cons_zero, List.set_cons_succ]
          refine wpAnyT_takeW (i := 2) (oi := ⟨some 108, _, _, _, _, _⟩) (v := ?_) rfl (by kernel_rfl) (by kernel_rfl) (by kernel_rfl) (by kernel_rfl) (fun _ _ _ h => h) (Or.inl ⟨by rfl, ?_⟩) (by assumption) ?_
          rotate_left
          · (intro w hSw; go_simp; try with_reducible rfl)
          try simp only [Act.put, List.setIfInBounds_toArray, List.set_cons_zero, List.set_cons_succ]
          refine wpAnyT_takeW (i := 3) (oi := ⟨some 109, _, _, _, _, _⟩) (v := ?_) rfl (by kernel_rfl) (by kernel_rfl) (by kernel_rfl) (by kernel_rfl) (fun _ _ _ h => h) (Or.inl ⟨by rfl, ?_⟩) (by assumption) ?_
          rotate_left
          · (intro w hSw; go_simp; try with_reducible rfl)
          try simp only [Act.put, List.setIfInBounds_toArray, List.set_cons_zero, List.set_cons_succ]
          refine wpAnyT_takeW (i := 4) (oi := ⟨some 110, _, _, _, _, _⟩) (v := ?_) rfl (by kernel_rfl) (by kernel_rfl) (by kernel_rfl) (by kernel_rfl) (fun _ _ _ h => h) (Or.inl ⟨by rfl, ?_⟩) (by assumption) ?_
          rotate_left
          · (intro w hSw; go_simp; try with_reducible rfl)
          try simp only [Act.put, List.setIfInBounds_toArray, List.set_cons_zero, List.set_cons_succ]
          refine wpAnyT_take (i := 5) (oi := ⟨some 111, _, _, _, _, _⟩) (v := ?_) rfl (by kernel_rfl) (by kernel_rfl) (by kernel_rfl) (by kernel_rfl) (by kernel_rfl) (by kernel_rfl) (fun _ _ _ h => h) (Or.inl ⟨by rfl, ?_⟩) (by assumption) ?_
          rotate_left
          · (intro w hSw; (try dsimp only at hSw); go_simp; try with_reducible rfl)
          try simp only [Act.put, List.setIfInBounds_toArray, List.set_cons_zero, List.set_cons_succ]
          refine wpAnyT_takeW (i := 6) (oi := ⟨some 112, _, _, _, _, _⟩) (v := ?_) rfl (by kernel_rfl) (by kernel_rfl) (by kernel_rfl) (by kernel_rfl) (fun _ _ _ h => h) (Or.inl ⟨by rfl, ?_⟩) (by assumption) ?_
          rotate_left
          · (intro w hSw; go_simp; try with_reducible rfl)
          try simp only [Act.put, List.setIfInBounds_toArray, List.set_cons_zero, List.set_cons_succ]
          refine wpAnyT_takeW (i := 9) (oi := ⟨some 115, _, _, _, _, _⟩) (v := ?_) rfl (by kernel_rfl) (by kernel_rfl) (by kernel_rfl) (by kernel_rfl) (fun _ _ _ h => h) (Or.inl ⟨by rfl, ?_⟩) (by assumption) ?_
          rotate_left
          · (intro w hSw; go_simp; try with_reducible rfl)
          try simp only [Act.put, List.setIfInBounds_toArray, List.set_cons_zero, List.set_cons_succ]
          refine wpAnyT_takeW (i := 10) (oi := ⟨some 116, _, _, _, _, _⟩) (v := ?_) rfl (by kernel_rfl) (by kernel_rfl) (by kernel_rfl) (by kernel_rfl) (fun _ _ _ h => h) (Or.inl ⟨by rfl, ?_⟩) (by assumption) ?_
          rotate_left
          · (intro w hSw; go_simp; try with_reducible rfl)
          try simp only [Act.put, List.setIfInBounds_toArray, List.set_cons_zero, List.set_cons_succ]
          refine wpAnyT_takeW (i := 11) (oi := ⟨some 117, _, _, _, _, _⟩) (v := ?_) rfl (by kernel_rfl) (by kernel_rfl) (by kernel_rfl) (by kernel_rfl) (fun _ _ _ h => h) (Or.inl ⟨by rfl, ?_⟩) (by assumption) ?_
          rotate_left
          · (intro w hSw; go_simp; try with_reducible rfl)
          try simp only [Act.put, List.setIfInBounds_toArray, List.set_cons_zero, List.set_cons_succ]
          refine wpAnyT_take (i := 12) (oi := ⟨some 118, _, _, _, _, _⟩) (v := ?_) rfl (by kernel_rfl) (by kernel_rfl) (by kernel_rfl) (by kernel_rfl) (by kernel_rfl) (by kernel_rfl) (fun _ _ _ h => h) (Or.inl ⟨by rfl, ?_⟩) (by assumption) ?_
          rotate_left
          · (intro w hSw; (try dsimp only at hSw); go_simp; try with_reducible rfl)
          try simp only [Act.put, List.setIfInBounds_toArray, List.set_cons_zero, List.set_cons_succ]
          refine wpAnyT_takeK (i := 13) 14 (oi := ⟨some 119, _, _, _, _, _⟩) (v := ?_) rfl (by kernel_rfl) (by kernel_rfl) (by kernel_rfl) (by kernel_rfl) (by kernel_rfl) (by kernel_rfl) (by kernel_rfl) (by kernel_rfl) (fun _ _ _ h => h) (Or.inl ⟨by rfl, ?_⟩) (by assumption) ?_
          rotate_left
          · (intro w hSw; (try dsimp only at hSw); go_simp; try with_reducible rfl)
          try simp only [Act.put, List.setIfInBounds_toArray, List.set_cons_zero, List.set_cons_succ]
          refine wpAnyT_ready (rs := [7]) (by kernel_rfl) (by simp) ?_
          refine AllReadyT.cons (o := ⟨some 113, _, _, _, _, _⟩) rfl (fun K hK => ?_) AllReadyT.nil
          go_simp
          refine hK.out _ _ (⟨⟨cell?_alloc_old _ c4, cell?_alloc_old _ c5⟩, cell?_alloc_old _ x0, cell?_alloc_old _ x1, cell?_alloc_old _ x2, cell?_alloc_old _ x3, cell?_alloc_old _ x4⟩) (fun hHeld => ?_)
          clear hK K
          try simp only [Act.put, List.setIfInBounds_toArray, List.set_cons_zero, List.set_cons_succ]
          refine wpAnyT_ready (rs := [8]) (by kernel_rfl) (by simp) ?_
          refine AllReadyT.cons (o := ⟨some 114, _, _, _, _, _⟩) rfl (fun K hK => ?_) AllReadyT.nil
          refine step_appG (wr := W6.drew) rfl (.tmp 111) (.tmp 113) 24 rfl (b + 1) 2 (.int .i64 0) 1 8 Try.underlying24 infoI rfl (by decide) (.slice At t.length ct) t.length (tV t) (by first | rfl | simp [Act.eval]) (show W6.drew.ownsRow (b + 1) 2 1 (.slice At t.length ct) t.length (tV t) from HT.out) #[.int .i64 (k : Int)] 1 1 (by first | rfl | simp [Act.eval]) rfl (by simp [Value.oneCell']) (by omega) (by show b + 1 ≤ W6.heap.size; omega) ?_
          intro v9 w9 hown9 hgr9 hb9
          obtain ⟨A9, c9, rfl⟩ := own_sliceV hown9
          have T9 := hid (glu_took (M := fun g => g = r) (W := W6.drew) HO.out HT.out HS.out HP.out hpb hpl HXB.out X6'.out hown9 hgr9 hb9)
          clear c4 c5 f4 f5 x0 x1 x2 x3 x4 hown9 hgr9 hb9
          have c4 := T9.out.1.cellAt 4 (by omega)
          have c5 := T9.out.1.cellAt 5 (by omega)
          simp only [List.getElem?_cons_zero, List.getElem?_cons_succ] at c4 c5
          have x0 := T9.out.2.1 0 _ rfl
          have x1 := T9.out.2.1 1 _ rfl
          have x2 := T9.out.2.1 2 _ rfl
          have x3 := T9.out.2.1 3 _ rfl
          have x4 := T9.out.2.1 4 _ rfl
          refine hK.out _ _ (⟨⟨c4, c5⟩, x0, x1, x2, x3, x4⟩) (fun hHeld => ?_)
          clear hK K
          try simp only [Act.put, List.setIfInBounds_toArray, List.set_cons_zero, List.set_cons_succ]
          refine wpAnyT_ready (rs := [14]) (by kernel_rfl) (by simp) ?_
          refine AllReadyT.cons (o := ⟨some 120, _, _, _, _, _⟩) rfl (fun K hK => ?_) AllReadyT.nil
          go_simp
          go_at_call 161
          refine (strength_ok x _ HXK.out).mono ?_
          rintro e w10 ⟨rfl, hb10⟩
          have O10 := hid (own_below T9.out.1 hb10)
          have X10 := hid (show ∀ i v, [.string x.fId, .int .i64 x.fDry, .int .i64 x.fWater, .int .i64 x.fHeat, .int .i64 x.fHours][i]? = some v → w10.cell? ⟨pb, i, none⟩ = some v from fun i v h => (hb10.cell (p := ⟨pb, i, none⟩) T9.out.2.2.1).trans (T9.out.2.1 i v h))
          have F10 := hid (T9.out.2.2.2 _ (s + strong x) hb10)
          clear c4 c5 x0 x1 x2 x3 x4 hb10
          have c4 := O10.out.cellAt 4 (by omega)
          have c5 := O10.out.cellAt 5 (by omega)
          have f4 := O10.out.frozenAt 4
          have f5 := O10.out.frozenAt 5
          simp only [List.getElem?_cons_zero, List.getElem?_cons_succ] at c4 c5
          have x0 := X10.out 0 _ rfl
          have x1 := X10.out 1 _ rfl
          have x2 := X10.out 2 _ rfl
          have x3 := X10.out 3 _ rfl
          have x4 := X10.out 4 _ rfl
          (try go_wp2_with fail)
          refine hK.out _ _ (⟨⟨c4, c5⟩, x0, x1, x2, x3, x4⟩) (fun hHeld => ?_)
          clear hK K
          try simp only [Act.put, List.setIfInBounds_toArray, List.set_cons_zero, List.set_cons_succ]
          refine wpAnyT_takeW (i := 15) (oi := ⟨some 121, _, _, _, _, _⟩) (v := ?_) rfl (by kernel_rfl) (by kernel_rfl) (by kernel_rfl) (by kernel_rfl) (fun _ _ _ h => h) (Or.inl ⟨by rfl, ?_⟩) (by assumption) ?_
          rotate_left
          · (intro w hSw; go_simp; try with_reducible rfl)
          try simp only [Act.put, List.setIfInBounds_toArray, List.set_cons_zero, List.set_cons_succ]
          refine wpAnyT_takeW (i := 16) (oi := ⟨some 122, _, _, _, _, _⟩) (v := ?_) rfl (by kernel_rfl) (by kernel_rfl) (by kernel_rfl) (by kernel_rfl) (fun _ _ _ h => h) (Or.inl ⟨by rfl, ?_⟩) (by assumption) ?_
          rotate_left
          · (intro w hSw; go_simp; try with_reducible rfl)
          try simp only [Act.put, List.setIfInBounds_toArray, List.set_cons_zero, List.set_cons_succ]
          refine wpAnyT_takeW (i := 17) (oi := ⟨some 123, _, _, _, _, _⟩) (v := ?_) rfl (by kernel_rfl) (by kernel_rfl) (by kernel_rfl) (by kernel_rfl) (fun _ _ _ h => h) (Or.inl ⟨by rfl, ?_⟩) (by assumption) ?_
          rotate_left
          · (intro w hSw; go_simp; try with_reducible rfl)
          try simp only [Act.put, List.setIfInBounds_toArray, List.set_cons_zero, List.set_cons_succ]
          refine wpAnyT_ready (rs := [18]) (by kernel_rfl) (by simp) ?_
          refine AllReadyT.consB (o := ⟨none, _, _, _, _, _⟩) rfl (by kernel_rfl) (fun K hK => ?_) AllReadyT.nil
          go_simp
          refine hK.out _ _ ?_
          clear hK K
          try simp only [Act.put, List.setIfInBounds_toArray, List.set_cons_zero, List.set_cons_succ]
          refine wpAnyT_takeV (i := 19) (oi := ⟨some 124, _, _, _, _, _⟩) (v := ?_) rfl (by kernel_rfl) (by kernel_rfl) (by kernel_rfl) (by kernel_rfl) (by kernel_rfl) (fun _ _ _ h => h) (Or.inl ⟨by rfl, ?_⟩) ?_
          rotate_left
          · (intro w hSw; go_simp; try with_reducible rfl)
          try simp only [Act.put, List.setIfInBounds_toArray, List.set_cons_zero, List.set_cons_succ]
          refine wpAnyT_takeV (i := 20) (oi := ⟨some 125, _, _, _, _, _⟩) (v := ?_) rfl (by kernel_rfl) (by kernel_rfl) (by kernel_rfl) (by kernel_rfl) (by kernel_rfl) (fun _ _ _ h => h) (Or.inl ⟨by rfl, ?_⟩) ?_
          rotate_left
          · (intro w hSw; go_simp; try with_reducible rfl)
          try simp only [Act.put, List.setIfInBounds_toArray, List.set_cons_zero, List.set_cons_succ]
          refine wpAnyT_ready (rs := [21]) (by kernel_rfl) (by simp) ?_
          refine AllReadyT.consB (o := ⟨none, _, _, _, _, _⟩) rfl (by kernel_rfl) (fun K hK => ?_) AllReadyT.nil
          go_simp
          refine hK.out _ _ ?_
          clear hK K
          try simp only [Act.put, List.setIfInBounds_toArray, List.set_cons_zero, List.set_cons_succ]
          refine wpAnyT_done (by kernel_rfl) ?_ _
          obtain ⟨⟨sb, sk⟩, sg⟩ := F10.out
          have S7 := hid sg
          have B7 := hid (B6.out.drew.trans (sb.mono (by omega)))
          have K7 := hid (K6.out.drew.trans sk)
          have R7 := hid (RestAt.under (w := W6.drew) R6.out sb hrb)
          have X7 := hid (PX.kept (W := W6.drew) (X6.out.kept (Kept.refl b 4 (fun g => g = r) W6).drew hpb hrb) sk hpb hrb)
          clear sb sk sg F10 T9 O10 X10 c4 c5 f4 f5 x0 x1 x2 x3 x4 HO HT HS HP S6 B6 K6 R6 X6 X6' HXB hpl hbW6
          generalize (w10.setCell ⟨b, 4, none⟩ (.slice A9 (t.length + 1) c9)).setCell ⟨b, 5, none⟩ (.int .i64 (s + strong x)) = W7 at S7 B7 K7 R7 X7 ⊢
          go_wp2_with fail
          refine (HIH.out (rest.set k (rk - nk)) (t ++ [k]) (s + strong x) ⟨S2.left - 1, S2.best, S2.most⟩ W7 (by have := HM2.out; rw [List.length_append, List.length_singleton]; omega) (by rw [List.length_set]; exact HRL.out) HRO2.out (by rw [List.length_append, List.length_singleton]; omega) (by show S2.left - 1 ≤ 20000; omega) B7.out S7.out R7.out).mono ?_
          rintro e W8 hr
          obtain ⟨ok, left8, best8, most8, found8, rfl, ⟨hb8, hk8⟩, hre8, hst8, hcase⟩ := hr.open
          have HCASE := hid hcase
          have S8 := hid hst8
          have B8 := hid hb8
          have K8 := hid (K7.out.trans hk8)
          have R8 := hid hre8
          have X8 := hid (X7.out.kept hk8 hpb hrb)
          obtain ⟨g6, c6, ⟨⟨h1, h2⟩, h3⟩, e4, i4, -, -, -⟩ := hst8.cut (M := fun g => g = r)
          have hb8l := hst8.lt
          have h4 : (0 : Int) ≤ (t.length : Int) := by omega
          have h5 : (t.length : Int) ≤ (c6 : Int) := by omega
          have HE45 := hid (show W8.cell? ⟨b, 5, none⟩ = some (.int .i64 (s + strong x)) ∧ W8.frozen? ⟨b, 5, none⟩ = false by
            obtain ⟨At, ct, Ab, cb, ho, -, -, -⟩ := hst8
            exact ⟨ho.cellAt 5 (by omega), ho.frozenAt 5⟩)
          obtain ⟨e5, i5⟩ := HE45.out
          have hpl8 := X8.out.lt
          have X8' := hid X8.out.cell
          have x0 := X8.out.cell 0 _ rfl
          have x1 := X8.out.cell 1 _ rfl
          have x2 := X8.out.cell 2 _ rfl
          have x3 := X8.out.cell 3 _ rfl
          have x4 := X8.out.cell 4 _ rfl
          clear hr hcase hst8 hb8 hk8 hre8 HE45 S7 B7 K7 R7 X7
          go_wp2_with fail
          refine wp_region_T (fun w' => (w'.cell? ⟨b, 4, none⟩ = some (.slice (some ⟨g6, 0, none⟩) (t.length + 1) c6) ∧ w'.cell? ⟨b, 5, none⟩ = some (.int .i64 (s + strong x))) ∧ (w'.cell? ⟨pb, 0, none⟩ = some (.string x.fId) ∧ w'.cell? ⟨pb, 1, none⟩ = some (.int .i64 x.fDry) ∧ w'.cell? ⟨pb, 2, none⟩ = some (.int .i64 x.fWater) ∧ w'.cell? ⟨pb, 3, none⟩ = some (.int .i64 x.fHeat) ∧ w'.cell? ⟨pb, 4, none⟩ = some (.int .i64 x.fHours))) [17] (by kernel_rfl) ⟨⟨e4, e5⟩, x0, x1, x2, x3, x4⟩ (fun hHeld => ?_)
          refine wpAnyT_takeW (i := 0) (oi := ⟨some 128, _, _, _, _, _⟩) (v := ?_) rfl (by kernel_rfl) (by kernel_rfl) (by kernel_rfl) (by kernel_rfl) (fun _ _ _ h => h) (Or.inl ⟨by rfl, ?_⟩) (by assumption) ?_
          rotate_left
          · (intro w hSw; go_simp; try with_reducible rfl)
          try simp only [Act.put, List.setIfInBounds_toArray, List.set_cons_zero, List.set_cons_succ]
          refine wpAnyT_takeW (i := 1) (oi := ⟨some 129, _, _, _, _, _⟩) (v := ?_) rfl (by kernel_rfl) (by kernel_rfl) (by kernel_rfl) (by kernel_rfl) (fun _ _ _ h => h) (Or.inl ⟨by rfl, ?_⟩) (by assumption) ?_
          rotate_left
          · (intro w hSw; go_simp; try with_reducible rfl)
          try simp only [Act.put, List.setIfInBounds_toArray, List.set_cons_zero, List.set_cons_succ]
          refine wpAnyT_takeW (i := 2) (oi := ⟨some 130, _, _, _, _, _⟩) (v := ?_) rfl (by kernel_rfl) (by kernel_rfl) (by kernel_rfl) (by kernel_rfl) (fun _ _ _ h => h) (Or.inl ⟨by rfl, ?_⟩) (by assumption) ?_
          rotate_left
          · (intro w hSw; go_simp; try with_reducible rfl)
          try simp only [Act.put, List.setIfInBounds_toArray, List.set_cons_zero, List.set_cons_succ]
          refine wpAnyT_takeW (i := 3) (oi := ⟨some 131, _, _, _, _, _⟩) (v := ?_) rfl (by kernel_rfl) (by kernel_rfl) (by kernel_rfl) (by kernel_rfl) (fun _ _ _ h => h) (Or.inl ⟨by rfl, ?_⟩) (by assumption) ?_
          rotate_left
          · (intro w hSw; go_simp; try with_reducible rfl)
          try simp only [Act.put, List.setIfInBounds_toArray, List.set_cons_zero, List.set_cons_succ]
          refine wpAnyT_takeW (i := 4) (oi := ⟨some 132, _, _, _, _, _⟩) (v := ?_) rfl (by kernel_rfl) (by kernel_rfl) (by kernel_rfl) (by kernel_rfl) (fun _ _ _ h => h) (Or.inl ⟨by rfl, ?_⟩) (by assumption) ?_
          rotate_left
          · (intro w hSw; go_simp; try with_reducible rfl)
          try simp only [Act.put, List.setIfInBounds_toArray, List.set_cons_zero, List.set_cons_succ]
          refine wpAnyT_take (i := 5) (oi := ⟨some 133, _, _, _, _, _⟩) (v := ?_) rfl (by kernel_rfl) (by kernel_rfl) (by kernel_rfl) (by kernel_rfl) (by kernel_rfl) (by kernel_rfl) (fun _ _ _ h => h) (Or.inl ⟨by rfl, ?_⟩) (by assumption) ?_
          rotate_left
          · (intro w hSw; (try dsimp only at hSw); go_simp; try with_reducible rfl)
          try simp only [Act.put, List.setIfInBounds_toArray, List.set_cons_zero, List.set_cons_succ]
          refine wpAnyT_takeW (i := 6) (oi := ⟨some 134, _, _, _, _, _⟩) (v := ?_) rfl (by kernel_rfl) (by kernel_rfl) (by kernel_rfl) (by kernel_rfl) (fun _ _ _ h => h) (Or.inl ⟨by rfl, ?_⟩) (by assumption) ?_
          rotate_left
          · (intro w hSw; go_simp; try with_reducible rfl)
          try simp only [Act.put, List.setIfInBounds_toArray, List.set_cons_zero, List.set_cons_succ]
          refine wpAnyT_takeW (i := 7) (oi := ⟨some 135, _, _, _, _, _⟩) (v := ?_) rfl (by kernel_rfl) (by kernel_rfl) (by kernel_rfl) (by kernel_rfl) (fun _ _ _ h => h) (Or.inl ⟨by rfl, ?_⟩) (by assumption) ?_
          rotate_left
          · (intro w hSw; go_simp; try with_reducible rfl)
          try simp only [Act.put, List.setIfInBounds_toArray, List.set_cons_zero, List.set_cons_succ]
          refine wpAnyT_takeW (i := 8) (oi := ⟨some 136, _, _, _, _, _⟩) (v := ?_) rfl (by kernel_rfl) (by kernel_rfl) (by kernel_rfl) (by kernel_rfl) (fun _ _ _ h => h) (Or.inl ⟨by rfl, ?_⟩) (by assumption) ?_
          rotate_left
          · (intro w hSw; go_simp; try with_reducible rfl)
          try simp only [Act.put, List.setIfInBounds_toArray, List.set_cons_zero, List.set_cons_succ]
          refine wpAnyT_takeW (i := 9) (oi := ⟨some 137, _, _, _, _, _⟩) (v := ?_) rfl (by kernel_rfl) (by kernel_rfl) (by kernel_rfl) (by kernel_rfl) (fun _ _ _ h => h) (Or.inl ⟨by rfl, ?_⟩) (by assumption) ?_
          rotate_left
          · (intro w hSw; go_simp; try with_reducible rfl)
          try simp only [Act.put, List.setIfInBounds_toArray, List.set_cons_zero, List.set_cons_succ]
          refine wpAnyT_takeW (i := 10) (oi := ⟨some 138, _, _, _, _, _⟩) (v := ?_) rfl (by kernel_rfl) (by kernel_rfl) (by kernel_rfl) (by kernel_rfl) (fun _ _ _ h => h) (Or.inl ⟨by rfl, ?_⟩) (by assumption) ?_
          rotate_left
          · (intro w hSw; go_simp; try with_reducible rfl)
          try simp only [Act.put, List.setIfInBounds_toArray, List.set_cons_zero, List.set_cons_succ]
          refine wpAnyT_take (i := 11) (oi := ⟨some 139, _, _, _, _, _⟩) (v := ?_) rfl (by kernel_rfl) (by kernel_rfl) (by kernel_rfl) (by kernel_rfl) (by kernel_rfl) (by kernel_rfl) (fun _ _ _ h => h) (Or.inl ⟨by rfl, ?_⟩) (by assumption) ?_
          rotate_left
          · (intro w hSw; (try dsimp only at hSw); go_simp; try with_reducible rfl)
          try simp only [Act.put, List.setIfInBounds_toArray, List.set_cons_zero, List.set_cons_succ]
          refine wpAnyT_takeK (i := 12) 13 (oi := ⟨some 140, _, _, _, _, _⟩) (v := ?_) rfl (by kernel_rfl) (by kernel_rfl) (by kernel_rfl) (by kernel_rfl) (by kernel_rfl) (by kernel_rfl) (by kernel_rfl) (by kernel_rfl) (fun _ _ _ h => h) (Or.inl ⟨by rfl, ?_⟩) (by assumption) ?_
          rotate_left
          · (intro w hSw; (try dsimp only at hSw); go_simp; try with_reducible rfl)
          try simp only [Act.put, List.setIfInBounds_toArray, List.set_cons_zero, List.set_cons_succ]
          refine wpAnyT_ready (rs := [13]) (by kernel_rfl) (by simp) ?_
          refine AllReadyT.cons (o := ⟨some 141, _, _, _, _, _⟩) rfl (fun K hK => ?_) AllReadyT.nil
          go_simp
          go_at_call 161
          refine (strength_ok x _ HXK.out).mono ?_
          rintro e w10 ⟨rfl, hb10⟩
          have F10 := hid (glu_back (M := fun g => g = r) (W := W8.drew) S8.out e4 hb10 s)
          have X10 := hid (show ∀ i v, [.string x.fId, .int .i64 x.fDry, .int .i64 x.fWater, .int .i64 x.fHeat, .int .i64 x.fHours][i]? = some v → w10.cell? ⟨pb, i, none⟩ = some v from fun i v h => (hb10.cell (p := ⟨pb, i, none⟩) hpl8).trans (X8'.out i v h))
          clear e4 e5 i4 i5 x0 x1 x2 x3 x4 hb10
          obtain ⟨e4, e5, i4, i5, F11⟩ := F10.out
          have x0 := X10.out 0 _ rfl
          have x1 := X10.out 1 _ rfl
          have x2 := X10.out 2 _ rfl
          have x3 := X10.out 3 _ rfl
          have x4 := X10.out 4 _ rfl
          (try go_wp2_with fail)
          refine hK.out _ _ (⟨⟨e4, e5⟩, x0, x1, x2, x3, x4⟩) (fun hHeld => ?_)
          clear hK K
          try simp only [Act.put, List.setIfInBounds_toArray, List.set_cons_zero, List.set_cons_succ]
          refine wpAnyT_takeW (i := 14) (oi := ⟨some 142, _, _, _, _, _⟩) (v := ?_) rfl (by kernel_rfl) (by kernel_rfl) (by kernel_rfl) (by kernel_rfl) (fun _ _ _ h => h) (Or.inl ⟨by rfl, ?_⟩) (by assumption) ?_
          rotate_left
          · (intro w hSw; go_simp; try with_reducible rfl)
          try simp only [Act.put, List.setIfInBounds_toArray, List.set_cons_zero, List.set_cons_succ]
          refine wpAnyT_takeW (i := 15) (oi := ⟨some 143, _, _, _, _, _⟩) (v := ?_) rfl (by kernel_rfl) (by kernel_rfl) (by kernel_rfl) (by kernel_rfl) (fun _ _ _ h => h) (Or.inl ⟨by rfl, ?_⟩) (by assumption) ?_
          rotate_left
          · (intro w hSw; go_simp; try with_reducible rfl)
          try simp only [Act.put, List.setIfInBounds_toArray, List.set_cons_zero, List.set_cons_succ]
          refine wpAnyT_takeW (i := 16) (oi := ⟨some 144, _, _, _, _, _⟩) (v := ?_) rfl (by kernel_rfl) (by kernel_rfl) (by kernel_rfl) (by kernel_rfl) (fun _ _ _ h => h) (Or.inl ⟨by rfl, ?_⟩) (by assumption) ?_
          rotate_left
          · (intro w hSw; go_simp; try with_reducible rfl)
          try simp only [Act.put, List.setIfInBounds_toArray, List.set_cons_zero, List.set_cons_succ]
          refine wpAnyT_ready (rs := [17]) (by kernel_rfl) (by simp) ?_
          refine AllReadyT.consB (o := ⟨none, _, _, _, _, _⟩) rfl (by kernel_rfl) (fun K hK => ?_) AllReadyT.nil
          go_simp
          refine hK.out _ _ ?_
          clear hK K
          try simp only [Act.put, List.setIfInBounds_toArray, List.set_cons_zero, List.set_cons_succ]
          refine wpAnyT_takeV (i := 18) (oi := ⟨some 145, _, _, _, _, _⟩) (v := ?_) rfl (by kernel_rfl) (by kernel_rfl) (by kernel_rfl) (by kernel_rfl) (by kernel_rfl) (fun _ _ _ h => h) (Or.inl ⟨by rfl, ?_⟩) ?_
          rotate_left
          · (intro w hSw; go_simp; try with_reducible rfl)
          try simp only [Act.put, List.setIfInBounds_toArray, List.set_cons_zero, List.set_cons_succ]
          refine wpAnyT_takeV (i := 19) (oi := ⟨some 146, _, _, _, _, _⟩) (v := ?_) rfl (by kernel_rfl) (by kernel_rfl) (by kernel_rfl) (by kernel_rfl) (by kernel_rfl) (fun _ _ _ h => h) (Or.inl ⟨by rfl, ?_⟩) ?_
          rotate_left
          · (intro w hSw; go_simp; try with_reducible rfl)
          try simp only [Act.put, List.setIfInBounds_toArray, List.set_cons_zero, List.set_cons_succ]
          refine wpAnyT_ready (rs := [20]) (by kernel_rfl) (by simp) ?_
          refine AllReadyT.consB (o := ⟨none, _, _, _, _, _⟩) rfl (by kernel_rfl) (fun K hK => ?_) AllReadyT.nil
          go_simp
          refine hK.out _ _ ?_
          clear hK K
          try simp only [Act.put, List.setIfInBounds_toArray, List.set_cons_zero, List.set_cons_succ]
          refine wpAnyT_done (by kernel_rfl) ?_ _
          obtain ⟨⟨sb, sk⟩, sg⟩ := F11
          have S9 := hid sg
          have B9 := hid (B8.out.drew.trans (sb.mono (by omega)))
          have K9 := hid (K8.out.drew.trans sk)
          have R9 := hid (RestAt.under (w := W8.drew) R8.out sb hrb)
          clear sb sk sg F10 X10 e4 e5 i4 i5 h1 h2 h3 h4 h5 x0 x1 x2 x3 x4 S8 B8 K8 R8 X8 X8' hpl8 hb8l
          generalize (w10.setCell ⟨b, 4, none⟩ (.slice (some ⟨g6, 0, none⟩) t.length c6)).setCell ⟨b, 5, none⟩ (.int .i64 s) = W9 at S9 B9 K9 R9 ⊢
          obtain ⟨At, ct, Ab, cb, ho, htk, hbs, hap⟩ := S9.out
          have HO := hid ho
          have HT := hid htk
          have HS := hid hbs
          have HP := hid hap
          clear ho htk hbs hap
          have c1 := HO.out.cellAt 1 (by omega)
          have c2 := HO.out.cellAt 2 (by omega)
          have f1 := HO.out.frozenAt 1
          have f2 := HO.out.frozenAt 2
          simp only [List.getElem?_cons_zero, List.getElem?_cons_succ] at c1 c2
          have hk9 : k < (rest.set k (rk - nk)).length := by rw [List.length_set]; exact hkr2
          have rc9 := R9.out.cell hk9
          rw [List.getElem_set_self] at rc9
          obtain ⟨rc, rf⟩ := rc9
          have n0 := (B9.out.cell (p := ⟨nb, no + t.length, none⟩) hnlt).trans HNC.out
          have hrlt := R9.out.lt
          have S10 := hid ((S9.out.low (p := ⟨r, k, none⟩) hrb (.int .i64 rk)).drew)
          have B10 := hid ((B9.out.setCell (p := ⟨r, k, none⟩) hr0 (.int .i64 rk)).drew)
          have K10 := hid ((K9.out.trans (Kept.storeM (s := 4) (M := fun g => g = r) (g := r) (i := k) (v := .int .i64 rk) rfl (by omega))).drew)
          have R10 := hid (show RestAt r cr rest (W9.setCell ⟨r, k, none⟩ (.int .i64 rk)).drew by
            have h9 := R9.out.set (k := k) rk
            rw [HBK.out] at h9
            exact h9)
          clear hk9
          go_wp2_with fail
          go_region
          generalize (W9.setCell ⟨r, k, none⟩ (.int .i64 rk)).drew = W10 at S10 B10 K10 R10 ⊢
          clear c1 f1 c2 f2 rc rf n0 HO HT HS HP S9 B9 K9 R9 At ct Ab cb
          cases ok
          · have HEN := hid (show srchG xs ns (m' + 1) rest t s S = none by
              rw [HE.out, hle]
              refine loopO_none (HF.out.trans ?_)
              rcases HCASE.out with ⟨-, h⟩ | ⟨h, -⟩
              · exact h
              · cases h)
            go_wp2_with fail
            go_ret
            refine ⟨⟨B10.out, K10.out⟩, R10.out, ?_⟩
            rw [HEN.out]
            exact ⟨rfl, _, _, _, _, S10.out⟩
          · obtain ⟨S3, hS3, hl3, rfl, rfl, rfl, rfl⟩ : ∃ S3, srchG xs ns m' (rest.set k (rk - nk)) (t ++ [k]) (s + strong x) ⟨S2.left - 1, S2.best, S2.most⟩ = some S3 ∧ S3.left ≤ 20000 ∧ left8 = (S3.left : Int) ∧ best8 = S3.best ∧ most8 = mostF S3.most ∧ found8 = decide (0 ≤ S3.most) := by
              rcases HCASE.out with ⟨h, -⟩ | ⟨-, h⟩
              · cases h
              · exact h
            have HEN := hid (show srchG xs ns (m' + 1) rest t s S = loopO (fun k S2 => if restI rest k < needI ns t.length then some S2 else if S2.left = 0 then none else srchG xs ns m' (rest.set k (restI rest k - needI ns t.length)) (t ++ [k]) (s + strI xs k) ⟨S2.left - 1, S2.best, S2.most⟩) (xs.length - (k + 1)) (k + 1) S3 by
              rw [HE.out, hle]
              exact loopO_some (HF.out.trans hS3))
            clear hS3 HCASE
            go_wp2_with fail
            go_roundw
            case rel => exact ⟨k + 1, S3, ⟨by omega, by go_num⟩, HEN.out, hl3, ⟨B10.out, K10.out⟩, S10.out, R10.out⟩
            case measure => simp [intOf]; omega
    · have hk2 : k = xs.length := by omega
      subst hk2
      have HEN := hid (show srchG xs ns (m' + 1) rest t s S = some S2 by rw [HE.out, Nat.sub_self]; rfl)
      go_wp2_with fail
      go_ret
      refine ⟨⟨BR.out, KR.out⟩, RR.out, ?_⟩
      rw [HEN.out]
      exact ⟨rfl, hl2, SR.out⟩
/-- the program's search -/
theorem gluSearch (xs : List DPot) (ns : List Int) (A : Option Addr) (c : Nat) (N : Option Addr) (cN b r cr : Nat) (w0 : World) (hA : RowsAt w0 5 A (xs.map DPot.cells)) (hN : IntsAt w0 N ns) (hX : ∀ x ∈ xs, potD0 x) (hn : xs.length ≤ 8) (hns : ∀ n ∈ ns, 1 ≤ n ∧ n ≤ 10000) (hnn : ns.length ≤ 10) (hr0 : w0.heap.size ≤ r) (hrb : r < b) (hcr : xs.length ≤ cr) : ∀ (m : Nat), ∀ (rest : List Int) (t : List Nat) (s : Int) (S : WS) (w : World), t.length + m = ns.length → rest.length = xs.length → RestOk rest → (0 ≤ s ∧ s ≤ 1000 * (t.length : Int)) → S.left ≤ 20000 → Below w0.heap.size w0 w → GluS b (.slice A xs.length c) (.slice N ns.length cN) (.slice (some ⟨r, 0, none⟩) xs.length cr) (S.left : Int) t s S.best (mostF S.most) (decide (0 ≤ S.most)) w → RestAt r cr rest w →
    Calls Try.prog 113 #[.pointer (some ⟨b, 0, none⟩)] w (GPost b r cr w0 w (.slice A xs.length c) (.slice N ns.length cN) (.slice (some ⟨r, 0, none⟩) xs.length cr) (srchG xs ns m rest t s S) rest t s)
  | 0 => glu_leaf xs ns A c N cN b r cr w0 hA hN hX hn hns hnn hr0 hrb hcr
  | m + 1 => glu_step xs ns A c N cN b r cr w0 hA hN hX hn hns hnn hr0 hrb hcr m (gluSearch xs ns A c N cN b r cr w0 hA hN hX hn hns hnn hr0 hrb hcr m)
end Go.Proofs.Ytdbjbkdcmhekfaa
