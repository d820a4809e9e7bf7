/- BestCoats: the reference's search. -/
import Derived.Test.YtdbjbkdcmhekfaaCoaI
namespace Go.Proofs.Ytdbjbkdcmhekfaa
open Go.RowKit
set_option linter.unusedVariables false

theorem roa_best {b : Nat} {LA GA : Value} {mo nodes bud g : Int} {t best : List Nat} {At Ab A3 : Option Addr} {ct cb c3 : Nat} {W w3 : World} (hO : W.ownsRow b 146 8 (.slice (some ⟨b, 0, none⟩) 1 1) 1 [LA, GA, .int .i64 mo, .slice At t.length ct, .slice Ab best.length cb, .int .i64 g, .int .i64 nodes, .int .i64 bud]) (hT : W.ownsRow (b + 1) 2 1 (.slice At t.length ct) t.length (tV t)) (h3 : w3.ownsRow W.heap.size 2 1 (.slice A3 t.length c3) t.length (tV t)) (hb3 : Below W.heap.size W w3) :
    (RoaAt b LA GA mo t t g nodes bud (w3.setCell ⟨b, 4, none⟩ (.slice A3 t.length c3)) ∧ Below b W (w3.setCell ⟨b, 4, none⟩ (.slice A3 t.length c3))) ∧ Kept b 3 (fun _ => False) W (w3.setCell ⟨b, 4, none⟩ (.slice A3 t.length c3)) := by
  have hlt := (hO.lt b rfl).2
  have h3' := own_mono h3 (show b + 1 ≤ W.heap.size by omega)
  refine ⟨⟨⟨At, ct, A3, c3, own_setCells [.slice A3 t.length c3] (p := 4) (own_below hO hb3), own_apart (own_below hT hb3) (by simp) _, own_apart h3' (by simp) _, apart_new hT h3⟩, ?_⟩, ?_⟩
  · exact (hb3.mono (Nat.le_of_lt hlt)).setCell (p := ⟨b, 4, none⟩) (Nat.le_refl _) _
  · exact (Kept.of_below hlt hb3).trans (Kept.store (by decide))

set_option maxHeartbeats 6400000 in
set_option maxRecDepth 100000 in
theorem roa_step (xs : List DCoat) (goal : List Int) (A : Option Addr) (c : Nat) (Gg : Option Addr) (cg b mo : Nat) (w0 : World) (hA : NestAt 1 hdCoat inCoat w0 A xs) (hX : ∀ x ∈ xs, coatD x = true) (hn : xs.length ≤ 10) (hG : IntsAt w0 Gg goal) (hgoal : Col goal) (hb0 : b = w0.heap.size) (hmo : mo ≤ 10) (bud : Int) (hbud : bud ≤ 20000) (m : Nat) (ih : ∀ m', m = m' + 1 → ∀ (t : List Nat) (col : List Int) (G : Option Addr) (cG : Nat) (S : WS) (w : World), t.length + m' = mo → Col col → ColAt b 3 w G col → (S.left : Int) ≤ bud → Below b w0 w → RoaAt b (.slice A xs.length c) (.slice Gg goal.length cg) (mo : Int) t S.best S.most (bud - (S.left : Int)) bud w →
    Calls Try.prog 97 #[.pointer (some ⟨b, 0, none⟩), .slice G col.length cG] w (DPost b w0 w (.slice A xs.length c) (.slice Gg goal.length cg) (mo : Int) bud (srchC xs goal m' t col S) t)) : ∀ (t : List Nat) (col : List Int) (G : Option Addr) (cG : Nat) (S : WS) (w : World), t.length + m = mo → Col col → ColAt b 3 w G col → (S.left : Int) ≤ bud → Below b w0 w → RoaAt b (.slice A xs.length c) (.slice Gg goal.length cg) (mo : Int) t S.best S.most (bud - (S.left : Int)) bud w →
    Calls Try.prog 97 #[.pointer (some ⟨b, 0, none⟩), .slice G col.length cG] w (DPost b w0 w (.slice A xs.length c) (.slice Gg goal.length cg) (mo : Int) bud (srchC xs goal m t col S) t) := by
  intro t col G cG S w hm hcol hG2 hl hbl hst
  have HA := hid hA
  have HX := hid hX
  have HG := hid hG
  have HGO := hid hgoal
  have HB0 := hid hb0
  have HIH := hid ih
  have HM := hid hm
  have HCO := hid hcol
  have HG2 := hid hG2
  have HB := hid hbl
  have hbw := hst.lt
  clear hA hX hG hgoal hb0 ih hm hcol hG2 hbl
  obtain ⟨At, ct, Ab, cb, ho, htk, hbs, hap⟩ := hst
  have HO := hid ho
  have HT := hid htk
  have HS := hid hbs
  have HP := hid hap
  clear ho htk hbs hap
  have c0 := HO.out.cellAt 0 (by omega)
  have c1 := HO.out.cellAt 1 (by omega)
  have c2 := HO.out.cellAt 2 (by omega)
  have c3 := HO.out.cellAt 3 (by omega)
  have c4 := HO.out.cellAt 4 (by omega)
  have c5 := HO.out.cellAt 5 (by omega)
  have c6 := HO.out.cellAt 6 (by omega)
  have c7 := HO.out.cellAt 7 (by omega)
  have f0 := HO.out.frozenAt 0
  have f1 := HO.out.frozenAt 1
  have f2 := HO.out.frozenAt 2
  have f3 := HO.out.frozenAt 3
  have f4 := HO.out.frozenAt 4
  have f5 := HO.out.frozenAt 5
  have f6 := HO.out.frozenAt 6
  have f7 := HO.out.frozenAt 7
  simp only [List.getElem?_cons_zero, List.getElem?_cons_succ] at c0 c1 c2 c3 c4 c5 c6 c7
  have W1S := hid (show RoaAt b (.slice A xs.length c) (.slice Gg goal.length cg) (mo : Int) t S.best S.most (bud - (S.left : Int) + 1) bud (w.setCell ⟨b, 6, none⟩ (.int .i64 (bud - (S.left : Int) + 1))) from ⟨At, ct, Ab, cb, own_setCells [.int .i64 (bud - (S.left : Int) + 1)] (p := 6) HO.out, own_apart HT.out (by simp) _, own_apart HS.out (by simp) _, HP.out⟩)
  have W1B := hid (HB.out.setCell (p := ⟨b, 6, none⟩) (Nat.le_refl _) (.int .i64 (bud - (S.left : Int) + 1)))
  have W1K := hid (Kept.store (M := fun _ => False) (s := 3) (b := b) (i := 6) (v := .int .i64 (bud - (S.left : Int) + 1)) (w := w) (by decide))
  go_enter Try.func97, Try.ntmps97
  go_upto_region 2 with fail
  generalize w.setCell ⟨b, 6, none⟩ (.int .i64 (bud - (S.left : Int) + 1)) = W1 at W1S W1B W1K ⊢
  clear c0 f0 c1 f1 c2 f2 c3 f3 c4 f4 c5 f5 c6 f6 c7 f7 HO HT HS HP At ct Ab cb
  obtain ⟨At, ct, Ab, cb, ho, htk, hbs, hap⟩ := W1S.out
  have HO := hid ho
  clear ho htk hbs hap
  have c0 := HO.out.cellAt 0 (by omega)
  have c1 := HO.out.cellAt 1 (by omega)
  have c2 := HO.out.cellAt 2 (by omega)
  have c3 := HO.out.cellAt 3 (by omega)
  have c4 := HO.out.cellAt 4 (by omega)
  have c5 := HO.out.cellAt 5 (by omega)
  have c6 := HO.out.cellAt 6 (by omega)
  have c7 := HO.out.cellAt 7 (by omega)
  have f0 := HO.out.frozenAt 0
  have f1 := HO.out.frozenAt 1
  have f2 := HO.out.frozenAt 2
  have f3 := HO.out.frozenAt 3
  have f4 := HO.out.frozenAt 4
  have f5 := HO.out.frozenAt 5
  have f6 := HO.out.frozenAt 6
  have f7 := HO.out.frozenAt 7
  simp only [List.getElem?_cons_zero, List.getElem?_cons_succ] at c0 c1 c2 c3 c4 c5 c6 c7
  by_cases hl0 : S.left = 0
  · have HR := hid (srchC_none (xs := xs) (goal := goal) (m := m) (t := t) (c := col) hl0)
    have d0 : bud < bud - (S.left : Int) + 1 := by omega
    have HL := hid hl0
    clear hl0
    go_quiet (fail)
    go_wp2_with fail
    go_ret
    refine ⟨below_drewN' W1B.out _, ?_⟩
    rw [HR.out]
    exact rfl
  · have d0 : ¬ bud < bud - (S.left : Int) + 1 := by omega
    have hl1 : 1 ≤ S.left := by omega
    have HL := hid hl0
    clear hl0
    have hml : t.length ≤ 10 := by have := HM.out; omega
    go_quiet (fail)
    have W1S := hid (W1S.out.drewN nq)
    have W1B := hid (below_drewN' W1B.out nq)
    have W1K := hid (W1K.out.drewN nq)
    clear c0 f0 c1 f1 c2 f2 c3 f3 c4 f4 c5 f5 c6 f6 c7 f7 HO At ct Ab cb
    generalize W1.drewN nq = W2 at W1S W1B W1K ⊢
    have C1 := hid (HG2.out.kept W1K.out)
    have G1 := hid (HG.out.below (show Below w0.heap.size w0 W2 by rw [← HB0.out]; exact W1B.out))
    go_upto_region 4 with fail
    obtain ⟨At, ct, Ab, cb, ho, htk, hbs, hap⟩ := W1S.out
    have HO := hid ho
    clear ho htk hbs hap
    have c0 := HO.out.cellAt 0 (by omega)
    have c1 := HO.out.cellAt 1 (by omega)
    have c2 := HO.out.cellAt 2 (by omega)
    have c3 := HO.out.cellAt 3 (by omega)
    have c4 := HO.out.cellAt 4 (by omega)
    have c5 := HO.out.cellAt 5 (by omega)
    have c6 := HO.out.cellAt 6 (by omega)
    have c7 := HO.out.cellAt 7 (by omega)
    have f0 := HO.out.frozenAt 0
    have f1 := HO.out.frozenAt 1
    have f2 := HO.out.frozenAt 2
    have f3 := HO.out.frozenAt 3
    have f4 := HO.out.frozenAt 4
    have f5 := HO.out.frozenAt 5
    have f6 := HO.out.frozenAt 6
    have f7 := HO.out.frozenAt 7
    simp only [List.getElem?_cons_zero, List.getElem?_cons_succ] at c0 c1 c2 c3 c4 c5 c6 c7
    go_wp2_with fail
    refine (l13Gap_ok G Gg cG cg col goal _ C1.out.ints G1.out HCO.out HGO.out).mono ?_
    rintro e w' ⟨rfl, q, rfl⟩
    have W2S := hid (W1S.out.drewN q)
    have W2B := hid (below_drewN' W1B.out q)
    have W2K := hid (W1K.out.drewN q)
    clear c0 f0 c1 f1 c2 f2 c3 f3 c4 f4 c5 f5 c6 f6 c7 f7 HO At ct Ab cb
    generalize W2.drewN q = W3 at W2S W2B W2K ⊢
    go_upto_region 5 with fail
    clear W1S W1B W1K C1 G1
    obtain ⟨At, ct, Ab, cb, ho, htk, hbs, hap⟩ := W2S.out
    have HO := hid ho
    have HT := hid htk
    have HS := hid hbs
    have HP := hid hap
    clear ho htk hbs hap
    have c0 := HO.out.cellAt 0 (by omega)
    have c1 := HO.out.cellAt 1 (by omega)
    have c2 := HO.out.cellAt 2 (by omega)
    have c3 := HO.out.cellAt 3 (by omega)
    have c4 := HO.out.cellAt 4 (by omega)
    have c5 := HO.out.cellAt 5 (by omega)
    have c6 := HO.out.cellAt 6 (by omega)
    have c7 := HO.out.cellAt 7 (by omega)
    have f0 := HO.out.frozenAt 0
    have f1 := HO.out.frozenAt 1
    have f2 := HO.out.frozenAt 2
    have f3 := HO.out.frozenAt 3
    have f4 := HO.out.frozenAt 4
    have f5 := HO.out.frozenAt 5
    have f6 := HO.out.frozenAt 6
    have f7 := HO.out.frozenAt 7
    simp only [List.getElem?_cons_zero, List.getElem?_cons_succ] at c0 c1 c2 c3 c4 c5 c6 c7
    obtain ⟨bt, hbt⟩ : ∃ bt, bt = decide (S.most < 0 ∨ gapN col goal < S.most) := ⟨_, rfl⟩
    have HBT := hid hbt
    clear hbt
    go_cut [5, 41] (fun s5 s41 wx => s5 = .int .i64 (gapN col goal) ∧ s41 = .bool bt ∧ wx = W3)
    case first =>
      by_cases h1 : S.most < 0
      · have e2 := hid (show bt = true by rw [HBT.out]; exact decide_eq_true (.inl h1))
        go_wp2_with fail
        go_meet
        exact ⟨rfl, congrArg Value.bool e2.out.symm, rfl⟩
      · have e2 := hid (show bt = decide (gapN col goal < S.most) by rw [HBT.out]; congr 1; simp [h1])
        go_wp2_with fail
        go_meet
        exact ⟨rfl, congrArg Value.bool e2.out.symm, rfl⟩
    case rest =>
      obtain ⟨rfl, rfl, rfl⟩ := hcut
      rename World => W3
      go_upto_if 41 with fail
      go_cut [5] (fun s5 wx => (RoaAt b (.slice A xs.length c) (.slice Gg goal.length cg) (mo : Int) t (bestC S t (gapN col goal)).best (bestC S t (gapN col goal)).most (bud - (S.left : Int) + 1) bud wx ∧ Below b W3 wx) ∧ Kept b 3 (fun _ => False) W3 wx)
      case first =>
        cases bt
        · have HE := hid (show bestC S t (gapN col goal) = ⟨S.left - 1, S.best, S.most⟩ ∧ 0 ≤ S.most by
            have h9 := of_decide_eq_false HBT.out.symm
            exact ⟨by rw [bestC, if_neg h9], by omega⟩)
          go_wp2_with fail
          go_meet
          rw [HE.out.1]
          exact ⟨⟨W2S.out, Below.refl _ _⟩, Kept.refl _ _ _ _⟩
        · have HE := hid (show bestC S t (gapN col goal) = ⟨S.left - 1, t, gapN col goal⟩ by rw [bestC, if_pos (of_decide_eq_true HBT.out.symm)])
          have H6 := hid (show (W3.setCell ⟨b, 5, none⟩ (.int .i64 (gapN col goal))).ownsRow b 146 8 (.slice (some ⟨b, 0, none⟩) 1 1) 1 [(.slice A xs.length c), (.slice Gg goal.length cg), .int .i64 (mo : Int), .slice At t.length ct, .slice Ab S.best.length cb, .int .i64 (gapN col goal), .int .i64 (bud - (S.left : Int) + 1), .int .i64 bud] from own_setCells [.int .i64 (gapN col goal)] (p := 5) HO.out)
          have T6 := hid (own_apart HT.out (p := ⟨b, 5, none⟩) (by simp) (.int .i64 (gapN col goal)))
          have B6 := hid ((Below.refl b W3).setCell (p := ⟨b, 5, none⟩) (Nat.le_refl _) (.int .i64 (gapN col goal)))
          have K6 := hid (Kept.store (M := fun _ => False) (s := 3) (b := b) (i := 5) (v := .int .i64 (gapN col goal)) (w := W3) (by decide))
          go_upto_region 7 with fail
          generalize W3.setCell ⟨b, 5, none⟩ (.int .i64 (gapN col goal)) = W4 at H6 T6 B6 K6 ⊢
          clear c0 f0 c1 f1 c2 f2 c3 f3 c4 f4 c5 f5 c6 f6 c7 f7
          have c3 := H6.out.cellAt 3 (by omega)
          have f3 := H6.out.frozenAt 3
          change W4.cell? ⟨b, 3, none⟩ = some (.slice At t.length ct) at c3
          go_wp2_with (go_at_call 98; refine (ownT_ok At ct t _ (B := b + 1) T6.out (by omega)).mono ?_; rintro e w5 ⟨A5, c5', rfl, ho5, hb5⟩; have N5 := hid ho5; have R5 := hid (roa_best H6.out T6.out N5.out hb5); have O5 := hid (own_below H6.out hb5); clear c3 f3; have c4 := O5.out.cellAt 4 (by omega); have f4 := O5.out.frozenAt 4; change w5.cell? ⟨b, 4, none⟩ = some (.slice Ab S.best.length cb) at c4; clear ho5 hb5)
          go_meet
          rw [HE.out]
          exact ⟨⟨R5.out.1.1, B6.out.trans R5.out.1.2⟩, K6.out.trans R5.out.2⟩
      case rest =>
        rename World => W4
        obtain ⟨⟨h1, h2⟩, h3⟩ := hcut
        obtain ⟨SB, hSB⟩ : ∃ SB, SB = bestC S t (gapN col goal) := ⟨_, rfl⟩
        have hSl : SB.left = S.left - 1 := by rw [hSB]; exact bestC_left _ _ _
        have hSm : 0 ≤ SB.most := by rw [hSB]; exact bestC_most (gapN_bd HCO.out HGO.out).1
        rw [← hSB, show (bud - (S.left : Int) + 1) = bud - (SB.left : Int) by omega] at h1
        have HSB := hid hSB
        have S1 := hid h1
        have B1 := hid (W2B.out.trans h2)
        have K1 := hid (W2K.out.trans h3)
        have hSl2 : (SB.left : Int) ≤ bud := by omega
        clear hSB hSl h1 h2 h3 HO HT HS HP W2S W2B W2K c0 f0 c1 f1 c2 f2 c3 f3 c4 f4 c5 f5 c6 f6 c7 f7 HBT HB hl1
        obtain ⟨At2, ct2, Ab2, cb2, ho, htk, hbs, hap⟩ := S1.out
        have HO := hid ho
        clear ho htk hbs hap
        have c0 := HO.out.cellAt 0 (by omega)
        have c1 := HO.out.cellAt 1 (by omega)
        have c2 := HO.out.cellAt 2 (by omega)
        have c3 := HO.out.cellAt 3 (by omega)
        have c4 := HO.out.cellAt 4 (by omega)
        have c5 := HO.out.cellAt 5 (by omega)
        have c6 := HO.out.cellAt 6 (by omega)
        have c7 := HO.out.cellAt 7 (by omega)
        have f0 := HO.out.frozenAt 0
        have f1 := HO.out.frozenAt 1
        have f2 := HO.out.frozenAt 2
        have f3 := HO.out.frozenAt 3
        have f4 := HO.out.frozenAt 4
        have f5 := HO.out.frozenAt 5
        have f6 := HO.out.frozenAt 6
        have f7 := HO.out.frozenAt 7
        simp only [List.getElem?_cons_zero, List.getElem?_cons_succ] at c0 c1 c2 c3 c4 c5 c6 c7
        cases m with
        | zero =>
          have d1 : ((t.length : Int) == (mo : Int)) = true := by have := HM.out; rw [beq_iff_eq]; omega
          have HR := hid (srchC_zero (xs := xs) (goal := goal) (t := t) (c := col) HL.out)
          go_wp2_with fail
          go_quiet (fail)
          go_wp2_with fail
          go_ret
          refine ⟨below_drewN' B1.out _, ?_⟩
          rw [HR.out, ← HSB.out]
          exact ⟨⟨rfl, K1.out.drewN _⟩, ⟨hSl2, hSm⟩, S1.out.drewN _⟩
        | succ m' =>
          have d1 : ((t.length : Int) == (mo : Int)) = false := by have := HM.out; rw [beq_eq_false_iff_ne]; omega
          have HR := hid (srchC_succ (xs := xs) (goal := goal) (m := m') (t := t) (c := col) HL.out)
          have HIH2 := hid (HIH.out m' rfl)
          have HM2 := hid (show t.length + 1 + m' = mo by have := HM.out; omega)
          clear HIH HM
          go_wp2_with fail
          go_quiet (fail)
          go_wp2_with fail
          go_loopw [6] (fun i wr => ∃ (k : Nat) (S2 : WS), (k ≤ xs.length ∧ i = .int .i64 k) ∧ Hid (srchC xs goal (m' + 1) t col S = loopO (fun i S2 => srchC xs goal m' (t ++ [i]) (overI xs i col) S2) (xs.length - k) k S2) ∧ ((S2.left : Int) ≤ bud ∧ 0 ≤ S2.most) ∧ (Below b w0 wr ∧ Kept b 3 (fun _ => False) w wr) ∧ RoaAt b (.slice A xs.length c) (.slice Gg goal.length cg) (mo : Int) t S2.best S2.most (bud - (S2.left : Int)) bud wr) (fun i _ => xs.length - (intOf i).toNat)
          case atStart => exact ⟨0, SB, ⟨Nat.zero_le _, rfl⟩, by show _ = _; rw [HR.out, ← HSB.out]; rfl, ⟨hSl2, hSm⟩, ⟨below_drewN' B1.out _, K1.out.drewN _⟩, S1.out.drewN _⟩
          case round =>
            clear c0 f0 c1 f1 c2 f2 c3 f3 c4 f4 c5 f5 c6 f6 c7 f7 HO d1 S1 B1 K1 HR HSB hSl2 hSm
            obtain ⟨k, S2, ⟨hk, rfl⟩, HE, ⟨hl2, hm2⟩, ⟨hbr, hkr⟩, hst⟩ := hrel
            have SR := hid hst
            have BR := hid hbr
            have KR := hid hkr
            have hbr2 := hst.lt
            clear hst hbr hkr
            obtain ⟨At3, ct3, Ab3, cb3, ho, htk, hbs, hap⟩ := SR.out
            have HO := hid ho
            have HT := hid htk
            have HS := hid hbs
            have HP := hid hap
            clear ho htk hbs hap
            by_cases hkl : k < xs.length
            · obtain ⟨ab, ao, A', c', hAe, hlt, x0, x1, x2, x3, hri⟩ := HA.out.atCoat hkl
              subst hAe
              have HRI := hid hri
              have HXK := hid (HX.out xs[k] (List.getElem_mem hkl))
              have q0 : (0 : Int) ≤ (k : Int) := by omega
              have q1 : (k : Int) < xs.length := by omega
              clear hri x0 x1
              have c0 := HO.out.cellAt 0 (by omega)
              have c3 := HO.out.cellAt 3 (by omega)
              have f0 := HO.out.frozenAt 0
              have f3 := HO.out.frozenAt 3
              simp only [List.getElem?_cons_zero, List.getElem?_cons_succ] at c0 c3
              go_upto_region 14 with (at_builtin; refine wpList_app2 (w0 := wr) rfl (.tmp 77) (.tmp 79) 24 rfl (b + 1) 2 (.int .i64 0) 1 8 Try.underlying24 infoI rfl (by decide) _ _ _ rfl HT.out #[.int .i64 (k : Int)] 1 1 (by first | rfl | simp [Act.eval]) rfl (by simp [Value.oneCell']) (by omega) hbr2 (Below.refl _ _) ?_; intro v9 w9 hown9 hbel9 hgr9 hb9; obtain ⟨A9, c9, rfl⟩ := own_sliceV hown9; have R9 := hid (RoaAt.take (q := 0) HO.out HT.out HS.out HP.out hown9 hgr9 hb9); clear c0 f0 c3 f3; have e1 := R9.out.2.1; have i1 := R9.out.2.2; clear hown9 hbel9 hgr9 hb9)
              obtain ⟨r1, r2, r3⟩ := R9.out.1
              have B4 := hid (BR.out.trans r1)
              have K4 := hid (KR.out.trans r2)
              have S4 := hid r3
              clear e1 i1 r1 r2 r3 R9 HO HT HS HP
              generalize w9.setCell ⟨b, 3, none⟩ (.slice A9 (t.length + 1) c9) = W5 at B4 K4 S4 ⊢
              have BW0 := hid (show Below w0.heap.size w0 W5 by rw [← HB0.out]; exact B4.out)
              replace x2 := (BW0.out.cell (p := ⟨ab, ao + k * 4 + 2, none⟩) hlt).trans x2
              replace x3 := (BW0.out.cell (p := ⟨ab, ao + k * 4 + 3, none⟩) hlt).trans x3
              have hlt5 : ab < W5.heap.size := Nat.lt_of_lt_of_le hlt BW0.out.size
              have C4 := hid (HG2.out.kept K4.out)
              have R4 := hid (HRI.out.below BW0.out)
              have OC := hid (overN_col HXK.out HCO.out)
              have c0 : W5.cell? ⟨b, 0, none⟩ = some (.slice (some ⟨ab, ao, none⟩) xs.length c) := by
                obtain ⟨_, _, _, _, ho, _, _, _⟩ := S4.out
                exact ho.cellAt 0 (by omega)
              go_wp2_with fail
              refine (l13Over_ok xs[k] A' G ab (ao + k * 4) c' cG col _ HXK.out R4.out hlt5 x2 x3 C4.out.ints HCO.out).mono ?_
              rintro e w5 ⟨A5, c5, rfl, ho5, _, hb5⟩
              have S5 := hid (S4.out.below hb5)
              have B5 := hid (below_up B4.out (Nat.le_of_lt S4.out.lt) hb5)
              have K5 := hid (K4.out.trans (Kept.of_below S4.out.lt hb5))
              have C5 := hid (ColAt.new (s := 3) ho5 OC.out.2 S4.out.lt hb5 (fun g hg => by
                obtain ⟨_, _, _, _, ho, htk, _, _⟩ := S4.out
                rw [blkAt_of (ho.cellAt 3 (by omega))] at hg
                exact (htk.lt g hg).2))
              clear ho5 hb5 x2 x3 c0
              go_wp2_with fail
              refine (HIH2.out (t ++ [k]) (overN xs[k] col) A5 c5 S2 w5 (by have := HM2.out; rw [List.length_append, List.length_singleton]; omega) OC.out C5.out hl2 B5.out S5.out).mono ?_
              rintro e w6 ⟨hb6, hr⟩
              have B6 := hid hb6
              clear hb6
              have hle : xs.length - k = (xs.length - (k + 1)) + 1 := by omega
              cases hq : srchC xs goal m' (t ++ [k]) (overN xs[k] col) S2 with
              | none =>
                rw [hq] at hr
                obtain rfl := hr
                have HN := hid (show srchC xs goal (m' + 1) t col S = none by rw [HE.out, hle]; exact loopO_none (by rw [overI_at hkl]; exact hq))
                clear hq hle
                go_wp2_with fail
                go_ret
                refine ⟨B6.out, ?_⟩
                rw [HN.out]
                exact rfl
              | some S3 =>
                rw [hq] at hr
                obtain ⟨⟨rfl, hk6⟩, ⟨hl3, hm3⟩, hst6⟩ := hr
                have K6 := hid (K5.out.trans hk6)
                obtain ⟨g6, c6, ⟨⟨h1, h2⟩, h3⟩, e6, i6, hst7, hk7, hb7⟩ := hst6.cut
                have HN := hid (show srchC xs goal (m' + 1) t col S = loopO (fun i S2 => srchC xs goal m' (t ++ [i]) (overI xs i col) S2) (xs.length - (k + 1)) (k + 1) S3 by rw [HE.out, hle]; exact loopO_some (by rw [overI_at hkl]; exact hq))
                have S7 := hid hst7
                have K7 := hid (K6.out.trans hk7)
                have B7 := hid (B6.out.trans hb7)
                have h4 : (0 : Int) ≤ (t.length : Int) := by omega
                have h5 : (t.length : Int) ≤ (c6 : Int) := by omega
                clear hst6 hst7 hk7 hb7 hk6 hq hle
                go_wp2_with fail
                apply wp_post (R := fun w' => (Below b w0 w' ∧ Kept b 3 (fun _ => False) w w') ∧ RoaAt b (.slice (some ⟨ab, ao, none⟩) xs.length c) (.slice Gg goal.length cg) (mo : Int) t S3.best S3.most (bud - (S3.left : Int)) bud w')
                · go_region
                  all_goals exact ⟨rfl, ⟨B7.out.drew, K7.out.drew⟩, S7.out.drew⟩
                · rintro w8 ⟨⟨hb8, hk8⟩, hst8⟩
                  have S8 := hid hst8
                  have K8 := hid hk8
                  have B8 := hid hb8
                  clear hst8 hk8 hb8 e6 i6
                  go_wp2_with fail
                  go_roundw
                  case rel => exact ⟨k + 1, S3, ⟨by omega, by go_num⟩, HN.out, ⟨hl3, hm3⟩, ⟨B8.out, K8.out⟩, S8.out⟩
                  case measure => simp [intOf]; omega
            · have hk2 : k = xs.length := by omega
              subst hk2
              have HN := hid (show srchC xs goal (m' + 1) t col S = some S2 by rw [HE.out, Nat.sub_self]; rfl)
              have c0 := HO.out.cellAt 0 (by omega)
              have f0 := HO.out.frozenAt 0
              simp only [List.getElem?_cons_zero] at c0
              go_wp2_with fail
              go_ret
              refine ⟨BR.out, ?_⟩
              rw [HN.out]
              exact ⟨⟨rfl, KR.out⟩, ⟨hl2, hm2⟩, SR.out⟩
/-- the reference's search -/
theorem roaSearch (xs : List DCoat) (goal : List Int) (A : Option Addr) (c : Nat) (Gg : Option Addr) (cg b mo : Nat) (w0 : World) (hA : NestAt 1 hdCoat inCoat w0 A xs) (hX : ∀ x ∈ xs, coatD x = true) (hn : xs.length ≤ 10) (hG : IntsAt w0 Gg goal) (hgoal : Col goal) (hb0 : b = w0.heap.size) (hmo : mo ≤ 10) (bud : Int) (hbud : bud ≤ 20000) : ∀ (m : Nat), ∀ (t : List Nat) (col : List Int) (G : Option Addr) (cG : Nat) (S : WS) (w : World), t.length + m = mo → Col col → ColAt b 3 w G col → (S.left : Int) ≤ bud → Below b w0 w → RoaAt b (.slice A xs.length c) (.slice Gg goal.length cg) (mo : Int) t S.best S.most (bud - (S.left : Int)) bud w →
    Calls Try.prog 97 #[.pointer (some ⟨b, 0, none⟩), .slice G col.length cG] w (DPost b w0 w (.slice A xs.length c) (.slice Gg goal.length cg) (mo : Int) bud (srchC xs goal m t col S) t)
  | 0 => roa_step xs goal A c Gg cg b mo w0 hA hX hn hG hgoal hb0 hmo bud hbud 0 (fun m' h => by omega)
  | m + 1 => roa_step xs goal A c Gg cg b mo w0 hA hX hn hG hgoal hb0 hmo bud hbud (m + 1) (fun m' h => by
    obtain rfl : m = m' := by omega
    exact roaSearch xs goal A c Gg cg b mo w0 hA hX hn hG hgoal hb0 hmo bud hbud m)
end Go.Proofs.Ytdbjbkdcmhekfaa
