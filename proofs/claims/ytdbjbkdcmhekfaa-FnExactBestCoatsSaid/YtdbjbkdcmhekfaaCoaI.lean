/- BestCoats: the program's search. -/
import Derived.Test.YtdbjbkdcmhekfaaCoaV
import Derived.Deep.DeepCutAuto
namespace Go.Proofs.Ytdbjbkdcmhekfaa
open Go.RowKit
set_option linter.unusedVariables false

theorem srchC_none {xs : List DCoat} {goal : List Int} {m : Nat} {t : List Nat} {c : List Int} {S : WS} (h : S.left = 0) : srchC xs goal m t c S = none := by
  cases m
  · rw [srchC, entC_none h]
  · rw [srchC, entC_none h]; rfl
theorem srchC_zero {xs : List DCoat} {goal : List Int} {t : List Nat} {c : List Int} {S : WS} (h : S.left ≠ 0) : srchC xs goal 0 t c S = some (bestC S t (gapN c goal)) := by
  rw [srchC, entC_some h]
theorem srchC_succ {xs : List DCoat} {goal : List Int} {m : Nat} {t : List Nat} {c : List Int} {S : WS} (h : S.left ≠ 0) : srchC xs goal (m + 1) t c S = loopO (fun i S2 => srchC xs goal m (t ++ [i]) (overI xs i c) S2) xs.length 0 (bestC S t (gapN c goal)) := by
  rw [srchC, entC_some h]; rfl
theorem coa_best {b : Nat} {LA GA : Value} {mo left g least : Int} {found : Bool} {t best : List Nat} {At Ab A3 : Option Addr} {ct cb c3 : Nat} {W w3 : World} (hO : W.ownsRow b 151 8 (.slice (some ⟨b, 0, none⟩) 1 1) 1 [LA, GA, .int .i64 mo, .int .i64 left, .slice At t.length ct, .slice Ab best.length cb, .int .i64 least, .bool found]) (hT : W.ownsRow (b + 1) 2 1 (.slice At t.length ct) t.length (tV t)) (h3 : w3.ownsRow W.heap.size 2 1 (.slice A3 t.length c3) t.length (tV t)) (hb3 : Below W.heap.size W w3) :
    (CoaAt b LA GA mo left t t g true (((w3.setCell ⟨b, 5, none⟩ (.slice A3 t.length c3)).setCell ⟨b, 6, none⟩ (.int .i64 g)).setCell ⟨b, 7, none⟩ (.bool true)) ∧ Below b W (((w3.setCell ⟨b, 5, none⟩ (.slice A3 t.length c3)).setCell ⟨b, 6, none⟩ (.int .i64 g)).setCell ⟨b, 7, none⟩ (.bool true))) ∧ Kept b 4 (fun _ => False) W (((w3.setCell ⟨b, 5, none⟩ (.slice A3 t.length c3)).setCell ⟨b, 6, none⟩ (.int .i64 g)).setCell ⟨b, 7, none⟩ (.bool true)) := by
  have hlt := (hO.lt b rfl).2
  have h3' := own_mono h3 (show b + 1 ≤ W.heap.size by omega)
  refine ⟨⟨⟨At, ct, A3, c3, own_setCells [.bool true] (p := 7) (own_setCells [.int .i64 g] (p := 6) (own_setCells [.slice A3 t.length c3] (p := 5) (own_below hO hb3))), own_apart (own_apart (own_apart (own_below hT hb3) (by simp) _) (by simp) _) (by simp) _, own_apart (own_apart (own_apart h3' (by simp) _) (by simp) _) (by simp) _, apart_new hT h3⟩, ?_⟩, ?_⟩
  · exact (((hb3.mono (Nat.le_of_lt hlt)).setCell (p := ⟨b, 5, none⟩) (Nat.le_refl _) _).setCell (p := ⟨b, 6, none⟩) (Nat.le_refl _) _).setCell (p := ⟨b, 7, none⟩) (Nat.le_refl _) _
  · exact (((Kept.of_below hlt hb3).trans (Kept.store (by decide))).trans (Kept.store (by decide))).trans (Kept.store (by decide))

set_option maxHeartbeats 6400000 in
set_option maxRecDepth 100000 in
theorem coa_step (xs : List DCoat) (goal : List Int) (A : Option Addr) (c : Nat) (Gg : Option Addr) (cg b mo : Nat) (w0 : World) (hA : NestAt 1 hdCoat inCoat w0 A xs) (hX : ∀ x ∈ xs, coatD x = true) (hn : xs.length ≤ 10) (hG : IntsAt w0 Gg goal) (hgoal : Col goal) (hb0 : b = w0.heap.size) (hmo : mo ≤ 10) (m : Nat) (ih : ∀ m', m = m' + 1 → ∀ (t : List Nat) (col : List Int) (G : Option Addr) (cG : Nat) (S : WS) (w : World), t.length + m' = mo → Col col → ColAt b 4 w G col → S.left ≤ 20000 → Below b w0 w → CoaAt b (.slice A xs.length c) (.slice Gg goal.length cg) (mo : Int) (S.left : Int) t S.best (leastF S.most) (decide (0 ≤ S.most)) w →
    Calls Try.prog 102 #[.pointer (some ⟨b, 0, none⟩), .slice G col.length cG] w (CPost b w0 w (.slice A xs.length c) (.slice Gg goal.length cg) (mo : Int) (srchC xs goal m' t col S) t)) : ∀ (t : List Nat) (col : List Int) (G : Option Addr) (cG : Nat) (S : WS) (w : World), t.length + m = mo → Col col → ColAt b 4 w G col → S.left ≤ 20000 → Below b w0 w → CoaAt b (.slice A xs.length c) (.slice Gg goal.length cg) (mo : Int) (S.left : Int) t S.best (leastF S.most) (decide (0 ≤ S.most)) w →
    Calls Try.prog 102 #[.pointer (some ⟨b, 0, none⟩), .slice G col.length cG] w (CPost b w0 w (.slice A xs.length c) (.slice Gg goal.length cg) (mo : Int) (srchC xs goal m t col S) t) := by
  intro t col G cG S w hm hcol hG2 hl hbl hst
  have HA := hid hA
  have HX := hid hX
  have HG := hid hG
  have HGO := hid hgoal
  have HB0 := hid hb0
  have HIH := hid ih
  have HM := hid hm
  have HCO := hid hcol
  have HG2 := hid hG2
  have HB := hid hbl
  have HST := hid hst
  have hbw := hst.lt
  clear hA hX hG hgoal hb0 ih hm hcol hG2 hbl
  obtain ⟨At, ct, Ab, cb, ho, htk, hbs, hap⟩ := hst
  have HO := hid ho
  have HT := hid htk
  have HS := hid hbs
  have HP := hid hap
  clear ho htk hbs hap
  have c0 := HO.out.cellAt 0 (by omega)
  have c1 := HO.out.cellAt 1 (by omega)
  have c2 := HO.out.cellAt 2 (by omega)
  have c3 := HO.out.cellAt 3 (by omega)
  have c4 := HO.out.cellAt 4 (by omega)
  have c5 := HO.out.cellAt 5 (by omega)
  have c6 := HO.out.cellAt 6 (by omega)
  have c7 := HO.out.cellAt 7 (by omega)
  have f0 := HO.out.frozenAt 0
  have f1 := HO.out.frozenAt 1
  have f2 := HO.out.frozenAt 2
  have f3 := HO.out.frozenAt 3
  have f4 := HO.out.frozenAt 4
  have f5 := HO.out.frozenAt 5
  have f6 := HO.out.frozenAt 6
  have f7 := HO.out.frozenAt 7
  simp only [List.getElem?_cons_zero, List.getElem?_cons_succ] at c0 c1 c2 c3 c4 c5 c6 c7
  by_cases hl0 : S.left = 0
  · have HR := hid (srchC_none (xs := xs) (goal := goal) (m := m) (t := t) (c := col) hl0)
    have d0 : ((S.left : Int) == 0) = true := by rw [beq_iff_eq]; omega
    have HL := hid hl0
    clear hl0
    go_enter Try.func102, Try.ntmps102
    go_wp2_with fail
    go_ret
    refine ⟨⟨HB.out, Kept.refl _ _ _ _⟩, ?_⟩
    rw [HR.out]
    exact ⟨rfl, _, _, _, _, HST.out⟩
  · have d0 : ((S.left : Int) == 0) = false := by rw [beq_eq_false_iff_ne]; omega
    have hl1 : 1 ≤ S.left := by omega
    have HL := hid hl0
    clear hl0
    have hml : t.length ≤ 10 := by have := HM.out; omega
    have W1S := hid (show CoaAt b (.slice A xs.length c) (.slice Gg goal.length cg) (mo : Int) ((S.left : Int) - 1) t S.best (leastF S.most) (decide (0 ≤ S.most)) (w.setCell ⟨b, 3, none⟩ (.int .i64 ((S.left : Int) - 1))) from ⟨At, ct, Ab, cb, own_setCells [.int .i64 ((S.left : Int) - 1)] (p := 3) HO.out, own_apart HT.out (by simp) _, own_apart HS.out (by simp) _, HP.out⟩)
    have W1B := hid (HB.out.setCell (p := ⟨b, 3, none⟩) (Nat.le_refl _) (.int .i64 ((S.left : Int) - 1)))
    have W1K := hid (Kept.store (M := fun _ => False) (s := 4) (b := b) (i := 3) (v := .int .i64 ((S.left : Int) - 1)) (w := w) (by decide))
    go_enter Try.func102, Try.ntmps102
    go_upto_region 4 with fail
    generalize w.setCell ⟨b, 3, none⟩ (.int .i64 ((S.left : Int) - 1)) = W1 at W1S W1B W1K ⊢
    clear c0 f0 c1 f1 c2 f2 c3 f3 c4 f4 c5 f5 c6 f6 c7 f7 HO HT HS HP At ct Ab cb d0
    obtain ⟨At, ct, Ab, cb, ho, htk, hbs, hap⟩ := W1S.out
    have HO := hid ho
    have HT := hid htk
    clear ho htk hbs hap
    have c0 := HO.out.cellAt 0 (by omega)
    have c1 := HO.out.cellAt 1 (by omega)
    have c2 := HO.out.cellAt 2 (by omega)
    have c3 := HO.out.cellAt 3 (by omega)
    have c4 := HO.out.cellAt 4 (by omega)
    have c5 := HO.out.cellAt 5 (by omega)
    have c6 := HO.out.cellAt 6 (by omega)
    have c7 := HO.out.cellAt 7 (by omega)
    have f0 := HO.out.frozenAt 0
    have f1 := HO.out.frozenAt 1
    have f2 := HO.out.frozenAt 2
    have f3 := HO.out.frozenAt 3
    have f4 := HO.out.frozenAt 4
    have f5 := HO.out.frozenAt 5
    have f6 := HO.out.frozenAt 6
    have f7 := HO.out.frozenAt 7
    simp only [List.getElem?_cons_zero, List.getElem?_cons_succ] at c0 c1 c2 c3 c4 c5 c6 c7
    have C1 := hid (HG2.out.kept W1K.out)
    have G1 := hid (HG.out.below (show Below w0.heap.size w0 W1 by rw [← HB0.out]; exact W1B.out))
    go_upto_region 5 with (go_at_call 154; refine (colourGap_ok G Gg cG cg col goal _ C1.out.ints G1.out HCO.out HGO.out).mono ?_; rintro e w' ⟨rfl, rfl⟩)
    obtain ⟨bt, hbt⟩ : ∃ bt, bt = decide (S.most < 0 ∨ gapN col goal < S.most) := ⟨_, rfl⟩
    have HBT := hid hbt
    clear hbt
    go_cut [5, 40] (fun s5 s40 wx => s5 = .int .i64 (gapN col goal) ∧ s40 = .bool bt ∧ wx = W1)
    case first =>
      by_cases h1 : S.most < 0
      · have e1 : decide (0 ≤ S.most) = false := decide_eq_false (by omega)
        have e2 := hid (show bt = true by rw [HBT.out]; exact decide_eq_true (.inl h1))
        rw [e1] at c7
        clear h1 e1
        go_wp2_with fail
        go_meet
        exact ⟨rfl, congrArg Value.bool e2.out.symm, rfl⟩
      · have e1 : decide (0 ≤ S.most) = true := decide_eq_true (by omega)
        have e2 := hid (show bt = decide (gapN col goal < S.most) by rw [HBT.out]; congr 1; simp [h1])
        have e3 := leastF_of (show 0 ≤ S.most by omega)
        rw [e1] at c7
        rw [e3] at c6
        clear h1 e1 e3
        go_wp2_with fail
        go_meet
        exact ⟨rfl, congrArg Value.bool e2.out.symm, rfl⟩
    case rest =>
      obtain ⟨rfl, rfl, rfl⟩ := hcut
      rename World => W1
      go_upto_if 40 with fail
      go_cut [5] (fun s5 wx => (CoaAt b (.slice A xs.length c) (.slice Gg goal.length cg) (mo : Int) ((S.left : Int) - 1) t (bestC S t (gapN col goal)).best (bestC S t (gapN col goal)).most true wx ∧ Below b W1 wx) ∧ Kept b 4 (fun _ => False) W1 wx)
      case first =>
        cases bt
        · have HE := hid (show bestC S t (gapN col goal) = ⟨S.left - 1, S.best, S.most⟩ ∧ 0 ≤ S.most by
            have h9 := of_decide_eq_false HBT.out.symm
            exact ⟨by rw [bestC, if_neg h9], by omega⟩)
          go_wp2_with fail
          go_meet
          rw [HE.out.1]
          have h9 := W1S.out
          rw [leastF_of HE.out.2, decide_eq_true HE.out.2] at h9
          exact ⟨⟨h9, Below.refl _ _⟩, Kept.refl _ _ _ _⟩
        · have HE := hid (show bestC S t (gapN col goal) = ⟨S.left - 1, t, gapN col goal⟩ by rw [bestC, if_pos (of_decide_eq_true HBT.out.symm)])
          go_wp2_with (go_at_call 137; refine (cloneT_ok At ct t _ (B := b + 1) HT.out (by omega)).mono ?_; rintro e w3 ⟨A3, c3', rfl, ho3, hb3⟩; have N3 := hid ho3; have R3 := hid (coa_best (g := gapN col goal) HO.out HT.out N3.out hb3); have O3 := hid (own_below HO.out hb3); clear c0 f0 c1 f1 c2 f2 c3 f3 c4 f4 c5 f5 c6 f6 c7 f7; have c5 := O3.out.cellAt 5 (by omega); have f5 := O3.out.frozenAt 5; have c6 := O3.out.cellAt 6 (by omega); have f6 := O3.out.frozenAt 6; have c7 := O3.out.cellAt 7 (by omega); have f7 := O3.out.frozenAt 7; simp only [List.getElem?_cons_zero, List.getElem?_cons_succ] at c5 c6 c7; clear ho3 hb3)
          go_meet
          rw [HE.out]
          exact R3.out
      case rest =>
        rename World => W2
        obtain ⟨⟨h1, h2⟩, h3⟩ := hcut
        obtain ⟨SB, hSB⟩ : ∃ SB, SB = bestC S t (gapN col goal) := ⟨_, rfl⟩
        have hSl : SB.left = S.left - 1 := by rw [hSB]; exact bestC_left _ _ _
        have hSm : 0 ≤ SB.most := by rw [hSB]; exact bestC_most (gapN_bd HCO.out HGO.out).1
        rw [← hSB, show ((S.left : Int) - 1) = (SB.left : Int) by omega] at h1
        have HSB := hid hSB
        have S1 := hid h1
        have B1 := hid (W1B.out.trans h2)
        have K1 := hid (W1K.out.trans h3)
        have hSl2 : SB.left ≤ 20000 := by omega
        clear hSB hSl h1 h2 h3 HO HT W1S W1B W1K C1 G1 c0 f0 c1 f1 c2 f2 c3 f3 c4 f4 c5 f5 c6 f6 c7 f7 HBT HST HB hl1
        obtain ⟨At2, ct2, Ab2, cb2, ho, htk, hbs, hap⟩ := S1.out
        have HO := hid ho
        clear ho htk hbs hap
        have c0 := HO.out.cellAt 0 (by omega)
        have c1 := HO.out.cellAt 1 (by omega)
        have c2 := HO.out.cellAt 2 (by omega)
        have c3 := HO.out.cellAt 3 (by omega)
        have c4 := HO.out.cellAt 4 (by omega)
        have c5 := HO.out.cellAt 5 (by omega)
        have c6 := HO.out.cellAt 6 (by omega)
        have c7 := HO.out.cellAt 7 (by omega)
        have f0 := HO.out.frozenAt 0
        have f1 := HO.out.frozenAt 1
        have f2 := HO.out.frozenAt 2
        have f3 := HO.out.frozenAt 3
        have f4 := HO.out.frozenAt 4
        have f5 := HO.out.frozenAt 5
        have f6 := HO.out.frozenAt 6
        have f7 := HO.out.frozenAt 7
        simp only [List.getElem?_cons_zero, List.getElem?_cons_succ] at c0 c1 c2 c3 c4 c5 c6 c7
        cases m with
        | zero =>
          have d1 : ((t.length : Int) == (mo : Int)) = true := by have := HM.out; rw [beq_iff_eq]; omega
          have HR := hid (srchC_zero (xs := xs) (goal := goal) (t := t) (c := col) HL.out)
          go_wp2_with fail
          go_ret
          refine ⟨⟨B1.out, K1.out⟩, ?_⟩
          rw [HR.out, ← HSB.out]
          exact ⟨rfl, ⟨hSl2, hSm⟩, S1.out⟩
        | succ m' =>
          have d1 : ((t.length : Int) == (mo : Int)) = false := by have := HM.out; rw [beq_eq_false_iff_ne]; omega
          have HR := hid (srchC_succ (xs := xs) (goal := goal) (m := m') (t := t) (c := col) HL.out)
          have HIH2 := hid (HIH.out m' rfl)
          have HM2 := hid (show t.length + 1 + m' = mo by have := HM.out; omega)
          clear HIH HM
          go_wp2_with fail
          go_loopw [72] (fun i wr => ∃ (k : Nat) (S2 : WS), (k ≤ xs.length ∧ i = .int .i64 k) ∧ Hid (srchC xs goal (m' + 1) t col S = loopO (fun i S2 => srchC xs goal m' (t ++ [i]) (overI xs i col) S2) (xs.length - k) k S2) ∧ (S2.left ≤ 20000 ∧ 0 ≤ S2.most) ∧ (Below b w0 wr ∧ Kept b 4 (fun _ => False) w wr) ∧ CoaAt b (.slice A xs.length c) (.slice Gg goal.length cg) (mo : Int) (S2.left : Int) t S2.best S2.most true wr) (fun i _ => xs.length - (intOf i).toNat)
          case atStart => exact ⟨0, SB, ⟨Nat.zero_le _, rfl⟩, by show _ = _; rw [HR.out, ← HSB.out]; rfl, ⟨hSl2, hSm⟩, ⟨B1.out, K1.out⟩, S1.out⟩
          case round =>
            clear c0 f0 c1 f1 c2 f2 c3 f3 c4 f4 c5 f5 c6 f6 c7 f7 HO d1 S1 B1 K1 HR HSB hSl2 hSm
            obtain ⟨k, S2, ⟨hk, rfl⟩, HE, ⟨hl2, hm2⟩, ⟨hbr, hkr⟩, hst⟩ := hrel
            have SR := hid hst
            have BR := hid hbr
            have KR := hid hkr
            have hbr2 := hst.lt
            clear hst hbr hkr
            by_cases hkl : k < xs.length
            · obtain ⟨ab, ao, A', c', hAe, hlt, x0, x1, x2, x3, hri⟩ := HA.out.atCoat hkl
              subst hAe
              have BW0 := hid (show Below w0.heap.size w0 wr by rw [← HB0.out]; exact BR.out)
              have HRI := hid hri
              have HXK := hid (HX.out xs[k] (List.getElem_mem hkl))
              replace x0 := (BW0.out.cell (p := ⟨ab, ao + k * 4, none⟩) hlt).trans x0
              replace x1 := (BW0.out.cell (p := ⟨ab, ao + k * 4 + 1, none⟩) hlt).trans x1
              replace x2 := (BW0.out.cell (p := ⟨ab, ao + k * 4 + 2, none⟩) hlt).trans x2
              replace x3 := (BW0.out.cell (p := ⟨ab, ao + k * 4 + 3, none⟩) hlt).trans x3
              have q0 : (0 : Int) ≤ (k : Int) := by omega
              have q1 : (k : Int) < xs.length := by omega
              obtain ⟨At3, ct3, Ab3, cb3, ho, htk, hbs, hap⟩ := SR.out
              have HTT := hid (show ∀ g, (Value.slice At3 t.length ct3).ownBlock = some g → g < wr.heap.size from fun g hg => (htk.lt g hg).2)
              have HO := hid (ho.alloc (.cells #[.string xs[k].fId, .int .i64 xs[k].fDays, .int .i64 xs[k].fCover, .slice A' xs[k].fIn.length c'] 147))
              have HT := hid (htk.alloc (.cells #[.string xs[k].fId, .int .i64 xs[k].fDays, .int .i64 xs[k].fCover, .slice A' xs[k].fIn.length c'] 147))
              have HS := hid (hbs.alloc (.cells #[.string xs[k].fId, .int .i64 xs[k].fDays, .int .i64 xs[k].fCover, .slice A' xs[k].fIn.length c'] 147))
              have HP := hid hap
              have WB := hid (BR.out.alloc (Nat.le_of_lt hbr2) (.cells #[.string xs[k].fId, .int .i64 xs[k].fDays, .int .i64 xs[k].fCover, .slice A' xs[k].fIn.length c'] 147))
              have WK := hid (KR.out.trans (Kept.of_below hbr2 (below_alloc wr (.cells #[.string xs[k].fId, .int .i64 xs[k].fDays, .int .i64 xs[k].fCover, .slice A' xs[k].fIn.length c'] 147))))
              have WX := hid (HasC.new wr [.string xs[k].fId, .int .i64 xs[k].fDays, .int .i64 xs[k].fCover, .slice A' xs[k].fIn.length c'] 147)
              clear hri ho htk hbs hap
              go_upto_region 13 with fail
              generalize wr.alloc (.cells #[.string xs[k].fId, .int .i64 xs[k].fDays, .int .i64 xs[k].fCover, .slice A' xs[k].fIn.length c'] 147) = W3 at HO HT HS WB WK WX ⊢
              have hbW3 : b < W3.heap.size := (HO.out.lt b rfl).2
              clear x0 x1 x2 x3
              have c4 := HO.out.cellAt 4 (by omega)
              have f4 := HO.out.frozenAt 4
              simp only [List.getElem?_cons_zero, List.getElem?_cons_succ] at c4
              go_upto_region 14 with (at_builtin; refine wpList_app2 (w0 := W3) rfl (.tmp 81) (.tmp 83) 24 rfl (b + 1) 2 (.int .i64 0) 1 8 Try.underlying24 infoI rfl (by decide) _ _ _ rfl HT.out #[.int .i64 (k : Int)] 1 1 (by first | rfl | simp [Act.eval]) rfl (by simp [Value.oneCell']) (by omega) hbW3 (Below.refl _ _) ?_; intro v9 w9 hown9 hbel9 hgr9 hb9; obtain ⟨A9, c9, rfl⟩ := own_sliceV hown9; have R9 := hid (CoaAt.take (q := 0) HO.out HT.out HS.out HP.out hown9 hgr9 hb9); clear c4 f4; have e1 := R9.out.2.1; have i1 := R9.out.2.2; clear hown9 hbel9 hgr9 hb9)
              have hxb : blkAt b 4 W3 ≠ some wr.heap.size := by
                rw [blkAt_of (HO.out.cellAt 4 (by omega))]
                intro e
                exact absurd (HTT.out _ e) (Nat.lt_irrefl _)
              obtain ⟨r1, r2, r3⟩ := R9.out.1
              have X4 := hid (show ∀ i v, [.string xs[k].fId, .int .i64 xs[k].fDays, .int .i64 xs[k].fCover, .slice A' xs[k].fIn.length c'][i]? = some v → (w9.setCell ⟨b, 4, none⟩ (.slice A9 (t.length + 1) c9)).cell? ⟨wr.heap.size, i, none⟩ = some v from fun i v h => r2.cell WX.out.1 (by omega) (fun h => h) hxb (WX.out.2 i v h))
              have B4 := hid (WB.out.trans r1)
              have K4 := hid (WK.out.trans r2)
              have S4 := hid r3
              clear e1 i1 r1 r2 r3 R9 hxb HO HT HS HP WB WK
              generalize w9.setCell ⟨b, 4, none⟩ (.slice A9 (t.length + 1) c9) = W4 at X4 B4 K4 S4 ⊢
              have y0 := X4.out 0 _ rfl
              have y1 := X4.out 1 _ rfl
              have y2 := X4.out 2 _ rfl
              have y3 := X4.out 3 _ rfl
              have C4 := hid (HG2.out.kept K4.out)
              have R4 := hid (HRI.out.below (show Below w0.heap.size w0 W4 by rw [← HB0.out]; exact B4.out))
              have OC := hid (overN_col HXK.out HCO.out)
              go_wp2_with fail
              refine (over_ok xs[k] A' G c' cG col _ HXK.out R4.out C4.out.ints HCO.out).mono ?_
              rintro e w5 ⟨A5, c5, rfl, ho5, _, hb5⟩
              have S5 := hid (S4.out.below hb5)
              have B5 := hid (below_up B4.out (Nat.le_of_lt S4.out.lt) hb5)
              have K5 := hid (K4.out.trans (Kept.of_below S4.out.lt hb5))
              have C5 := hid (ColAt.new (s := 4) ho5 OC.out.2 S4.out.lt hb5 (fun g hg => by
                obtain ⟨_, _, _, _, ho, htk, _, _⟩ := S4.out
                rw [blkAt_of (ho.cellAt 4 (by omega))] at hg
                exact (htk.lt g hg).2))
              clear ho5 hb5 y0 y1 y2 y3
              go_wp2_with fail
              refine (HIH2.out (t ++ [k]) (overN xs[k] col) A5 c5 S2 w5 (by have := HM2.out; rw [List.length_append, List.length_singleton]; omega) OC.out C5.out hl2 B5.out (by rw [leastF_of hm2, decide_eq_true hm2]; exact S5.out)).mono ?_
              rintro e w6 ⟨⟨hb6, hk6⟩, hr⟩
              have K6 := hid (K5.out.trans hk6)
              have B6 := hid hb6
              clear hb6 hk6
              have hle : xs.length - k = (xs.length - (k + 1)) + 1 := by omega
              cases hq : srchC xs goal m' (t ++ [k]) (overN xs[k] col) S2 with
              | none =>
                rw [hq] at hr
                obtain ⟨rfl, left6, best6, least6, found6, hst6⟩ := hr
                obtain ⟨g6, c6, ⟨⟨h1, h2⟩, h3⟩, e6, i6, hst7, hk7, hb7⟩ := hst6.cut
                have HN := hid (show srchC xs goal (m' + 1) t col S = none by rw [HE.out, hle]; exact loopO_none (by rw [overI_at hkl]; exact hq))
                have S7 := hid hst7
                have K7 := hid (K6.out.trans hk7)
                have B7 := hid (B6.out.trans hb7)
                have h4 : (0 : Int) ≤ (t.length : Int) := by omega
                have h5 : (t.length : Int) ≤ (c6 : Int) := by omega
                clear hst6 hst7 hk7 hb7 hq hle
                go_wp2_with fail
                go_ret
                refine ⟨⟨B7.out, K7.out⟩, ?_⟩
                rw [HN.out]
                exact ⟨rfl, _, _, _, _, S7.out⟩
              | some S3 =>
                rw [hq] at hr
                obtain ⟨rfl, ⟨hl3, hm3⟩, hst6⟩ := hr
                obtain ⟨g6, c6, ⟨⟨h1, h2⟩, h3⟩, e6, i6, hst7, hk7, hb7⟩ := hst6.cut
                have HN := hid (show srchC xs goal (m' + 1) t col S = loopO (fun i S2 => srchC xs goal m' (t ++ [i]) (overI xs i col) S2) (xs.length - (k + 1)) (k + 1) S3 by rw [HE.out, hle]; exact loopO_some (by rw [overI_at hkl]; exact hq))
                have S7 := hid hst7
                have K7 := hid (K6.out.trans hk7)
                have B7 := hid (B6.out.trans hb7)
                have h4 : (0 : Int) ≤ (t.length : Int) := by omega
                have h5 : (t.length : Int) ≤ (c6 : Int) := by omega
                clear hst6 hst7 hk7 hb7 hq hle
                go_wp2_with fail
                go_roundw
                case rel => exact ⟨k + 1, S3, ⟨by omega, by go_num⟩, HN.out, ⟨hl3, hm3⟩, ⟨B7.out, K7.out⟩, S7.out⟩
                case measure => simp [intOf]; omega
            · have hk2 : k = xs.length := by omega
              subst hk2
              have HN := hid (show srchC xs goal (m' + 1) t col S = some S2 by rw [HE.out, Nat.sub_self]; rfl)
              go_wp2_with fail
              go_ret
              refine ⟨⟨BR.out, KR.out⟩, ?_⟩
              rw [HN.out]
              exact ⟨rfl, ⟨hl2, hm2⟩, SR.out⟩
/-- the program's search -/
theorem coaSearch (xs : List DCoat) (goal : List Int) (A : Option Addr) (c : Nat) (Gg : Option Addr) (cg b mo : Nat) (w0 : World) (hA : NestAt 1 hdCoat inCoat w0 A xs) (hX : ∀ x ∈ xs, coatD x = true) (hn : xs.length ≤ 10) (hG : IntsAt w0 Gg goal) (hgoal : Col goal) (hb0 : b = w0.heap.size) (hmo : mo ≤ 10) : ∀ (m : Nat), ∀ (t : List Nat) (col : List Int) (G : Option Addr) (cG : Nat) (S : WS) (w : World), t.length + m = mo → Col col → ColAt b 4 w G col → S.left ≤ 20000 → Below b w0 w → CoaAt b (.slice A xs.length c) (.slice Gg goal.length cg) (mo : Int) (S.left : Int) t S.best (leastF S.most) (decide (0 ≤ S.most)) w →
    Calls Try.prog 102 #[.pointer (some ⟨b, 0, none⟩), .slice G col.length cG] w (CPost b w0 w (.slice A xs.length c) (.slice Gg goal.length cg) (mo : Int) (srchC xs goal m t col S) t)
  | 0 => coa_step xs goal A c Gg cg b mo w0 hA hX hn hG hgoal hb0 hmo 0 (fun m' h => by omega)
  | m + 1 => coa_step xs goal A c Gg cg b mo w0 hA hX hn hG hgoal hb0 hmo (m + 1) (fun m' h => by
    obtain rfl : m = m' := by omega
    exact coaSearch xs goal A c Gg cg b mo w0 hA hX hn hG hgoal hb0 hmo m)
end Go.Proofs.Ytdbjbkdcmhekfaa
