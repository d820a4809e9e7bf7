/- CutRibs: a rib given to a strip, if it has room. -/
import Derived.Test.YtdbjbkdcmhekfaaCutV
import Derived.Deep.DeepCutAuto
import Derived.Test.YtdbjbkdcmhekfaaHeldT
import Derived.Deep.QuietTactic
namespace Go.Proofs.Ytdbjbkdcmhekfaa
open Go.RowKit
set_option linter.unusedVariables false


set_option maxHeartbeats 6400000 in
set_option maxRecDepth 100000 in
theorem take_ok (xs : List DRib) (A : Option Addr) (c b : Nat) (w0 : World) (hA : RowsAt w0 3 A (xs.map DRib.cells)) (hb0 : b = w0.heap.size) (strip saw left most : Int) (fr : List Int) (t : List Nat) (k : Nat) (w : World) (hs0 : 1 ≤ strip ∧ strip ≤ 100000) (hs1 : 0 ≤ saw ∧ saw ≤ 100) (hP : ∀ x ∈ xs, 1 ≤ x.fLength ∧ x.fLength ≤ 10000) (hF : FrOk fr) (hfl : fr.length ≤ 1000) (htl : t.length < xs.length) (hn : xs.length ≤ 1000) (hk : k ≤ fr.length) (hbl : Below b w0 w) (hst : CutAt b (.slice A xs.length c) strip saw fr t left most w) (z : Bool) (hz : decide (frB fr k (strip + saw) < xs[t.length].fLength + saw) = z) :
    Calls Try.prog 143 #[.pointer (some ⟨b, 0, none⟩), .int .i64 (k : Int)] w fun e w' => Below b w w' ∧ e = .returned (.tuple #[.int .i64 (frB fr k (strip + saw)), .bool (!z)]) ∧ (z = true → CutAt b (.slice A xs.length c) strip saw (frA fr k (strip + saw)) t left most w') ∧ (z = false → CutAt b (.slice A xs.length c) strip saw ((frA fr k (strip + saw)).set k (frB fr k (strip + saw) - (xs[t.length].fLength + saw))) (t ++ [k]) left most w') := by
  have HST := hid hst
  have HZ := hid hz
  have HF := hid hF
  obtain ⟨ab, ao, rfl, hlt, hc⟩ := hA (by intro e; rw [List.map_eq_nil_iff] at e; rw [e] at htl; exact absurd htl (by simp))
  have BW0 := hid (show Below w0.heap.size w0 w by rw [← hb0]; exact hbl)
  have x1 : w.cell? ⟨ab, ao + t.length * 3 + 1, none⟩ = some (.int .i64 xs[t.length].fLength) := (BW0.out.cell (p := ⟨ab, ao + t.length * 3 + 1, none⟩) hlt).trans (hc t.length _ (by rw [List.getElem?_map, List.getElem?_eq_getElem htl]; rfl) 1 _ rfl)
  obtain ⟨l0, l1⟩ := hP xs[t.length] (List.getElem_mem htl)
  have q0 : (0 : Int) ≤ (t.length : Int) := by omega
  have q1 : (t.length : Int) < xs.length := by omega
  have hfb := frB_bd (k := k) hF (show 0 ≤ strip + saw ∧ strip + saw ≤ 200000 by omega) hk
  have ws : IntKind.i64.wrap (strip + saw) = strip + saw := IntWalk.i64_in _ (by omega)
  have hbw := hst.lt
  obtain ⟨Af, cf, At, ct, ho, hf, ht, hap⟩ := hst
  have HO := hid ho
  clear hA hb0 hbl hz hF hc ho hf ht hap hP
  have c0 := HO.out.cellAt 0 (by omega)
  have c1 := HO.out.cellAt 1 (by omega)
  have c2 := HO.out.cellAt 2 (by omega)
  have c3 := HO.out.cellAt 3 (by omega)
  have c4 := HO.out.cellAt 4 (by omega)
  have c5 := HO.out.cellAt 5 (by omega)
  have c6 := HO.out.cellAt 6 (by omega)
  have f0 := HO.out.frozenAt 0
  have f1 := HO.out.frozenAt 1
  have f2 := HO.out.frozenAt 2
  have f3 := HO.out.frozenAt 3
  have f4 := HO.out.frozenAt 4
  have f5 := HO.out.frozenAt 5
  have f6 := HO.out.frozenAt 6
  simp only [List.getElem?_cons_zero, List.getElem?_cons_succ] at c0 c1 c2 c3 c4 c5 c6
  go_enter Try.func143, Try.ntmps143
  go_wp2_with fail
  go_quiet (fail)
  have W1S := hid (HST.out.drewN nq)
  have W1B := hid (below_drewN' (Below.refl b w) nq)
  clear c0 f0 c1 f1 c2 f2 c3 f3 c4 f4 c5 f5 c6 f6 HO x1 HST BW0
  generalize w.drewN nq = W1 at W1S W1B ⊢
  obtain ⟨Af, cf, At, ct, ho, hf, ht, hap⟩ := W1S.out
  have HO := hid ho
  have HFR := hid hf
  have HT := hid ht
  have HP := hid hap
  have hb1 := W1S.out.lt
  clear ho hf ht hap
  have c0 := HO.out.cellAt 0 (by omega)
  have c1 := HO.out.cellAt 1 (by omega)
  have c2 := HO.out.cellAt 2 (by omega)
  have c3 := HO.out.cellAt 3 (by omega)
  have c4 := HO.out.cellAt 4 (by omega)
  have c5 := HO.out.cellAt 5 (by omega)
  have c6 := HO.out.cellAt 6 (by omega)
  have f0 := HO.out.frozenAt 0
  have f1 := HO.out.frozenAt 1
  have f2 := HO.out.frozenAt 2
  have f3 := HO.out.frozenAt 3
  have f4 := HO.out.frozenAt 4
  have f5 := HO.out.frozenAt 5
  have f6 := HO.out.frozenAt 6
  simp only [List.getElem?_cons_zero, List.getElem?_cons_succ] at c0 c1 c2 c3 c4 c5 c6
  go_upto_if 26 with fail
  go_cut [6] (fun s6 wx => s6 = .int .i64 xs[t.length].fLength ∧ CutAt b (.slice (some ⟨ab, ao, none⟩) xs.length c) strip saw (frA fr k (strip + saw)) t left most wx ∧ Below b W1 wx)
  case first =>
    by_cases h : k < fr.length
    · have d1 : ((k : Int) == (fr.length : Int)) = false := by rw [beq_eq_false_iff_ne]; omega
      have HE := hid (frA_lt (s := strip + saw) h)
      go_wp2_with fail
      go_meet
      rw [HE.out]
      exact ⟨rfl, W1S.out, Below.refl _ _⟩
    · obtain rfl : k = fr.length := by omega
      have HE := hid (frA_end (fr := fr) (s := strip + saw))
      go_wp2_with fail
      refine wp_region_T (fun w' => (w'.cell? ⟨b, 1, none⟩ = some (.int .i64 strip) ∧ w'.cell? ⟨b, 2, none⟩ = some (.int .i64 saw)) ∧ w'.cell? ⟨b, 3, none⟩ = some (.slice Af fr.length cf)) [18] (by kernel_rfl) ⟨⟨c1, c2⟩, c3⟩ (fun hHeld => ?_)
      refine wpAnyT_takeW (i := 0) (oi := ⟨some 27, _, _, _, _, _⟩) (v := ?_) rfl (by kernel_rfl) (by kernel_rfl) (by kernel_rfl) (by kernel_rfl) (fun _ _ _ h => h) (Or.inl ⟨by rfl, ?_⟩) (by assumption) ?_
      rotate_left
      · (intro w hSw; go_simp; try with_reducible rfl)
      try simp only [Act.put, List.setIfInBounds_toArray, List.set_cons_zero, List.set_cons_succ]
      refine wpAnyT_takeW (i := 1) (oi := ⟨some 28, _, _, _, _, _⟩) (v := ?_) rfl (by kernel_rfl) (by kernel_rfl) (by kernel_rfl) (by kernel_rfl) (fun _ _ _ h => h) (Or.inl ⟨by rfl, ?_⟩) (by assumption) ?_
      rotate_left
      · (intro w hSw; go_simp; try with_reducible rfl)
      try simp only [Act.put, List.setIfInBounds_toArray, List.set_cons_zero, List.set_cons_succ]
      refine wpAnyT_takeW (i := 2) (oi := ⟨some 29, _, _, _, _, _⟩) (v := ?_) rfl (by kernel_rfl) (by kernel_rfl) (by kernel_rfl) (by kernel_rfl) (fun _ _ _ h => h) (Or.inl ⟨by rfl, ?_⟩) (by assumption) ?_
      rotate_left
      · (intro w hSw; go_simp; try with_reducible rfl)
      try simp only [Act.put, List.setIfInBounds_toArray, List.set_cons_zero, List.set_cons_succ]
      refine wpAnyT_takeW (i := 3) (oi := ⟨some 30, _, _, _, _, _⟩) (v := ?_) rfl (by kernel_rfl) (by kernel_rfl) (by kernel_rfl) (by kernel_rfl) (fun _ _ _ h => h) (Or.inl ⟨by rfl, ?_⟩) (by assumption) ?_
      rotate_left
      · (intro w hSw; go_simp; try with_reducible rfl)
      try simp only [Act.put, List.setIfInBounds_toArray, List.set_cons_zero, List.set_cons_succ]
      refine wpAnyT_take (i := 4) (oi := ⟨some 31, _, _, _, _, _⟩) (v := ?_) rfl (by kernel_rfl) (by kernel_rfl) (by kernel_rfl) (by kernel_rfl) (by kernel_rfl) (by kernel_rfl) (fun _ _ _ h => h) (Or.inl ⟨by rfl, ?_⟩) (by assumption) ?_
      rotate_left
      · (intro w hSw; (try dsimp only at hSw); go_simp; try with_reducible rfl)
      try simp only [Act.put, List.setIfInBounds_toArray, List.set_cons_zero, List.set_cons_succ]
      refine wpAnyT_takeW (i := 5) (oi := ⟨some 32, _, _, _, _, _⟩) (v := ?_) rfl (by kernel_rfl) (by kernel_rfl) (by kernel_rfl) (by kernel_rfl) (fun _ _ _ h => h) (Or.inl ⟨by rfl, ?_⟩) (by assumption) ?_
      rotate_left
      · (intro w hSw; go_simp; try with_reducible rfl)
      try simp only [Act.put, List.setIfInBounds_toArray, List.set_cons_zero, List.set_cons_succ]
      refine wpAnyT_takeW (i := 6) (oi := ⟨some 33, _, _, _, _, _⟩) (v := ?_) rfl (by kernel_rfl) (by kernel_rfl) (by kernel_rfl) (by kernel_rfl) (fun _ _ _ h => h) (Or.inl ⟨by rfl, ?_⟩) (by assumption) ?_
      rotate_left
      · (intro w hSw; go_simp; try with_reducible rfl)
      try simp only [Act.put, List.setIfInBounds_toArray, List.set_cons_zero, List.set_cons_succ]
      refine wpAnyT_takeW (i := 7) (oi := ⟨some 34, _, _, _, _, _⟩) (v := ?_) rfl (by kernel_rfl) (by kernel_rfl) (by kernel_rfl) (by kernel_rfl) (fun _ _ _ h => h) (Or.inl ⟨by rfl, ?_⟩) (by assumption) ?_
      rotate_left
      · (intro w hSw; go_simp; try with_reducible rfl)
      try simp only [Act.put, List.setIfInBounds_toArray, List.set_cons_zero, List.set_cons_succ]
      refine wpAnyT_take (i := 8) (oi := ⟨some 35, _, _, _, _, _⟩) (v := ?_) rfl (by kernel_rfl) (by kernel_rfl) (by kernel_rfl) (by kernel_rfl) (by kernel_rfl) (by kernel_rfl) (fun _ _ _ h => h) (Or.inl ⟨by rfl, ?_⟩) (by assumption) ?_
      rotate_left
      · (intro w hSw; (try dsimp only at hSw); go_simp; try with_reducible rfl)
      try simp only [Act.put, List.setIfInBounds_toArray, List.set_cons_zero, List.set_cons_succ]
      refine wpAnyT_takeW (i := 9) (oi := ⟨some 36, _, _, _, _, _⟩) (v := ?_) rfl (by kernel_rfl) (by kernel_rfl) (by kernel_rfl) (by kernel_rfl) (fun _ _ _ h => h) (Or.inl ⟨by rfl, ?_⟩) (by assumption) ?_
      rotate_left
      · (intro w hSw; go_simp; try with_reducible rfl)
      try simp only [Act.put, List.setIfInBounds_toArray, List.set_cons_zero, List.set_cons_succ]
      refine wpAnyT_takeW (i := 10) (oi := ⟨some 37, _, _, _, _, _⟩) (v := ?_) rfl (by kernel_rfl) (by kernel_rfl) (by kernel_rfl) (by kernel_rfl) (fun _ _ _ h => h) (Or.inl ⟨by rfl, ?_⟩) (by assumption) ?_
      rotate_left
      · (intro w hSw; go_simp; try with_reducible rfl)
      try simp only [Act.put, List.setIfInBounds_toArray, List.set_cons_zero, List.set_cons_succ]
      refine wpAnyT_takeW (i := 11) (oi := ⟨some 38, _, _, _, _, _⟩) (v := ?_) rfl (by kernel_rfl) (by kernel_rfl) (by kernel_rfl) (by kernel_rfl) (fun _ _ _ h => h) (Or.inl ⟨by rfl, ?_⟩) (by assumption) ?_
      rotate_left
      · (intro w hSw; go_simp; try with_reducible rfl)
      try simp only [Act.put, List.setIfInBounds_toArray, List.set_cons_zero, List.set_cons_succ]
      refine wpAnyT_take (i := 12) (oi := ⟨some 39, _, _, _, _, _⟩) (v := ?_) rfl (by kernel_rfl) (by kernel_rfl) (by kernel_rfl) (by kernel_rfl) (by kernel_rfl) (by kernel_rfl) (fun _ _ _ h => h) (Or.inl ⟨by rfl, ?_⟩) (by assumption) ?_
      rotate_left
      · (intro w hSw; (try dsimp only at hSw); go_simp; try with_reducible rfl)
      try simp only [Act.put, List.setIfInBounds_toArray, List.set_cons_zero, List.set_cons_succ]
      refine wpAnyT_takeW (i := 13) (oi := ⟨some 40, _, _, _, _, _⟩) (v := ?_) rfl (by kernel_rfl) (by kernel_rfl) (by kernel_rfl) (by kernel_rfl) (fun _ _ _ h => h) (Or.inl ⟨by rfl, ?_⟩) (by assumption) ?_
      rotate_left
      · (intro w hSw; go_simp; try with_reducible rfl)
      try simp only [Act.put, List.setIfInBounds_toArray, List.set_cons_zero, List.set_cons_succ]
      refine wpAnyT_ready (rs := [14]) (by kernel_rfl) (by simp) ?_
      refine AllReadyT.cons (o := ⟨some 41, _, _, _, _, _⟩) rfl (fun K hK => ?_) AllReadyT.nil
      go_simp
      refine hK.out _ _ (⟨⟨(cell?_alloc_old _ c1), (cell?_alloc_old _ c2)⟩, (cell?_alloc_old _ c3)⟩) (fun hHeld => ?_)
      clear hK K
      try simp only [Act.put, List.setIfInBounds_toArray, List.set_cons_zero, List.set_cons_succ]
      refine wpAnyT_ready (rs := [15]) (by kernel_rfl) (by simp) ?_
      refine AllReadyT.cons (o := ⟨some 42, _, _, _, _, _⟩) rfl (fun K hK => ?_) AllReadyT.nil
      refine step_app3 (wr := W1.drew) rfl (.tmp 31) (.tmp 41) 24 rfl (b + 1) 2 (.int .i64 0) 1 8 Try.underlying24 infoI rfl (by decide) (.slice Af fr.length cf) fr.length (iV fr) (by first | rfl | simp [Act.eval]) (show W1.drew.ownsRow (b + 1) 2 1 (.slice Af fr.length cf) fr.length (iV fr) from HFR.out) #[.int .i64 (strip + saw)] 1 1 (by first | rfl | simp [Act.eval]) rfl (by simp [Value.oneCell']) (by omega) (by show b + 1 ≤ W1.heap.size; omega) ?_
      intro v9 w9 hown9 hgr9 hb9
      obtain ⟨A9, c9, rfl⟩ := own_sliceV hown9
      have R9 := hid (grow_row (w := W1.drew) (s := 3) (q := 0) HO.out HFR.out HT.out HP.out hown9 hgr9 hb9)
      have e1 := R9.out.2.2.2.2.2.1
      have i1 := R9.out.2.2.2.2.2.2 3
      have e3 := e1 3 (by omega)
      simp only [List.getElem?_cons_zero, List.getElem?_cons_succ] at e3
      clear hown9 hgr9 hb9
      refine hK.out _ _ (⟨⟨e1 1 (by omega), e1 2 (by omega)⟩, e1 3 (by omega)⟩) (fun hHeld => ?_)
      clear hK K
      try simp only [Act.put, List.setIfInBounds_toArray, List.set_cons_zero, List.set_cons_succ]
      refine wpAnyT_takeW (i := 16) (oi := ⟨some 43, _, _, _, _, _⟩) (v := ?_) rfl (by kernel_rfl) (by kernel_rfl) (by kernel_rfl) (by kernel_rfl) (fun _ _ _ h => h) (Or.inl ⟨by rfl, ?_⟩) (by assumption) ?_
      rotate_left
      · (intro w hSw; go_simp; try with_reducible rfl)
      try simp only [Act.put, List.setIfInBounds_toArray, List.set_cons_zero, List.set_cons_succ]
      refine wpAnyT_takeW (i := 17) (oi := ⟨some 44, _, _, _, _, _⟩) (v := ?_) rfl (by kernel_rfl) (by kernel_rfl) (by kernel_rfl) (by kernel_rfl) (fun _ _ _ h => h) (Or.inl ⟨by rfl, ?_⟩) (by assumption) ?_
      rotate_left
      · (intro w hSw; go_simp; try with_reducible rfl)
      try simp only [Act.put, List.setIfInBounds_toArray, List.set_cons_zero, List.set_cons_succ]
      refine wpAnyT_ready (rs := [18]) (by kernel_rfl) (by simp) ?_
      refine AllReadyT.consB (o := ⟨none, _, _, _, _, _⟩) rfl (by kernel_rfl) (fun K hK => ?_) AllReadyT.nil
      go_simp
      refine hK.out _ _ ?_
      clear hK K
      try simp only [Act.put, List.setIfInBounds_toArray, List.set_cons_zero, List.set_cons_succ]
      refine wpAnyT_done (by kernel_rfl) ?_ _
      go_wp2_with fail
      go_meet
      obtain ⟨r1, r2, r3, r4, r5, -⟩ := R9.out
      refine ⟨rfl, ?_, (Below.refl b W1).drew.trans r5⟩
      rw [HE.out]
      have el : (fr ++ [strip + saw]).length = fr.length + 1 := by simp
      unfold CutAt
      rw [el]
      exact ⟨A9, c9, At, ct, r1, by unfold iV; rw [List.map_append]; exact r2, r3, r4⟩
  case rest =>
    obtain ⟨rfl, h2, h3⟩ := hcut
    rename World => W2
    have hkh := frA_has (s := strip + saw) hk
    obtain ⟨g, cg, ⟨e3, e4, e5⟩, ⟨e6, e7⟩, hset⟩ := h2.setF hkh
    have HV := frB_at (s := strip + saw) hk
    rw [List.getElem?_eq_getElem hkh] at HV
    injection HV with HV
    rw [HV] at e6
    have S2 := hid h2
    have B2 := hid (W1B.out.trans h3)
    have HSET := hid hset
    have hfr2 : (frA fr k (strip + saw)).length ≤ 1001 := by
      unfold frA
      split
      · omega
      · rw [List.length_append, List.length_singleton]; omega
    have q2 : (0 : Int) ≤ (k : Int) := by omega
    have q3 : (k : Int) < (frA fr k (strip + saw)).length := by omega
    have hb2 := h2.lt
    clear h2 h3 hset HV c0 f0 c1 f1 c2 f2 c3 f3 c4 f4 c5 f5 c6 f6 HO HFR HT HP W1S W1B hb1
    obtain ⟨Af, cf, At, ct, ho, hf, ht, hap⟩ := S2.out
    have HO := hid ho
    clear ho hf ht hap
    have c2 := HO.out.cellAt 2 (by omega)
    have f2 := HO.out.frozenAt 2
    simp only [List.getElem?_cons_zero, List.getElem?_cons_succ] at c2
    cases z
    · have d1 : ¬ frB fr k (strip + saw) < xs[t.length].fLength + saw := of_decide_eq_false HZ.out
      have S3 := hid (HSET.out (frB fr k (strip + saw) - (xs[t.length].fLength + saw)))
      go_wp2_with fail
      apply wp_post (R := fun w' => CutAt b (.slice (some ⟨ab, ao, none⟩) xs.length c) strip saw ((frA fr k (strip + saw)).set k (frB fr k (strip + saw) - (xs[t.length].fLength + saw))) t left most w' ∧ Below b w w')
      · go_region
        all_goals exact ⟨rfl, S3.out.1.drew, (B2.out.trans S3.out.2).drew⟩
      · rintro w3 ⟨hst3, hb3⟩
        have S4 := hid hst3
        have B4 := hid hb3
        have hb5 := hst3.lt
        clear hst3 hb3 e3 e6 e7 c2 f2 HO S3
        obtain ⟨Af, cf, At, ct, ho, hf, ht, hap⟩ := S4.out
        have HO := hid ho
        have HFR := hid hf
        have HT := hid ht
        have HP := hid hap
        clear ho hf ht hap
        have c4 := HO.out.cellAt 4 (by omega)
        have f4 := HO.out.frozenAt 4
        simp only [List.getElem?_cons_zero, List.getElem?_cons_succ] at c4
        go_wp2_with (at_builtin; refine wpList_app2 (w0 := w3) rfl (.tmp 80) (.tmp 82) 24 rfl (b + 1) 2 (.int .i64 0) 1 8 Try.underlying24 infoI rfl (by decide) _ _ _ rfl HT.out #[.int .i64 (k : Int)] 1 1 (by first | rfl | simp [Act.eval]) rfl (by simp [Value.oneCell']) (by omega) (by omega) (Below.refl _ _) ?_; intro v9 w9 hown9 hbel9 hgr9 hb9; obtain ⟨A9, c9, rfl⟩ := own_sliceV hown9; have R9 := hid (grow_row (s := 4) (q := 0) HO.out HT.out HFR.out HP.out.comm hown9 hgr9 hb9); have e1 := R9.out.2.2.2.2.2.1 4 (by omega); have i1 := R9.out.2.2.2.2.2.2 4; simp only [List.getElem?_cons_zero, List.getElem?_cons_succ] at e1; clear c4 f4 hown9 hbel9 hgr9 hb9)
        go_ret2
        obtain ⟨r1, r2, r3, r4, r5, -⟩ := R9.out
        first | refine ⟨B4.out.trans r5, rfl, fun h => by cases h, fun _ => ?_⟩ | refine ⟨B4.out.trans r5, rfl, ?_⟩
        have el : (t ++ [k]).length = t.length + 1 := by simp
        unfold CutAt
        rw [el]
        exact ⟨Af, cf, A9, c9, r1, r3, by rw [tV_app]; exact r2, r4.comm⟩
    · have d1 : frB fr k (strip + saw) < xs[t.length].fLength + saw := of_decide_eq_true HZ.out
      go_wp2_with fail
      go_ret2
      first | exact ⟨B2.out, rfl, fun _ => S2.out, fun h => by cases h⟩ | exact ⟨B2.out, rfl, S2.out⟩
end Go.Proofs.Ytdbjbkdcmhekfaa
