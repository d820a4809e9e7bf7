/- CutRibs: the program's search. -/
import Derived.Test.YtdbjbkdcmhekfaaCutT
namespace Go.Proofs.Ytdbjbkdcmhekfaa
open Go.RowKit
set_option linter.unusedVariables false

/-- a call's answer -/
def KPost (b : Nat) (w0 : World) (LA : Value) (strip saw most : Int) (r : Cut) (fr : List Int) (t : List Nat) (e : Ending) (w' : World) : Prop :=
  Below b w0 w' ∧ match r with
  | .full => e = .returned (.tuple #[.bool false, .bool false])
  | .solved t2 => e = .returned (.tuple #[.bool true, .bool true]) ∧ ∃ fr2 left, CutAt b LA strip saw fr2 t2 left most w'
  | .fail l => e = .returned (.tuple #[.bool false, .bool true]) ∧ l ≤ 20000 ∧ CutAt b LA strip saw fr t (l : Int) most w'

set_option maxHeartbeats 6400000 in
set_option maxRecDepth 100000 in
theorem cut_step (xs : List DRib) (A : Option Addr) (c b mo : Nat) (w0 : World) (strip saw : Int) (hA : RowsAt w0 3 A (xs.map DRib.cells)) (hb0 : b = w0.heap.size) (hs0 : 1 ≤ strip ∧ strip ≤ 100000) (hs1 : 0 ≤ saw ∧ saw ≤ 100) (hP : ∀ x ∈ xs, 1 ≤ x.fLength ∧ x.fLength ≤ 10000) (hn : xs.length ≤ 8) (hmo : mo ≤ 8) (m : Nat) (ih : ∀ m', m = m' + 1 → ∀ (fr : List Int) (t : List Nat) (l : Nat) (w : World), t.length + m' = xs.length → FrOk fr → fr.length ≤ mo → l ≤ 20000 → Below b w0 w → CutAt b (.slice A xs.length c) strip saw fr t (l : Int) (mo : Int) w →
    Calls Try.prog 85 #[.pointer (some ⟨b, 0, none⟩)] w (KPost b w0 (.slice A xs.length c) strip saw (mo : Int) (cutS (lens xs) strip saw mo m' fr t l) fr t)) : ∀ (fr : List Int) (t : List Nat) (l : Nat) (w : World), t.length + m = xs.length → FrOk fr → fr.length ≤ mo → l ≤ 20000 → Below b w0 w → CutAt b (.slice A xs.length c) strip saw fr t (l : Int) (mo : Int) w →
    Calls Try.prog 85 #[.pointer (some ⟨b, 0, none⟩)] w (KPost b w0 (.slice A xs.length c) strip saw (mo : Int) (cutS (lens xs) strip saw mo m fr t l) fr t) := by
  intro fr t l w hm hF hfl hl hbl hst
  have HA := hid hA
  have HB0 := hid hb0
  have HPP := hid hP
  have HIH := hid ih
  have HM := hid hm
  have HF := hid hF
  have HB := hid hbl
  have HST := hid hst
  have hbw := hst.lt
  clear hA hb0 hP ih hm hF hbl
  obtain ⟨Af, cf, At, ct, ho, hf, ht, hap⟩ := hst
  have HO := hid ho
  clear ho hf ht hap
  have c0 := HO.out.cellAt 0 (by omega)
  have c1 := HO.out.cellAt 1 (by omega)
  have c2 := HO.out.cellAt 2 (by omega)
  have c3 := HO.out.cellAt 3 (by omega)
  have c4 := HO.out.cellAt 4 (by omega)
  have c5 := HO.out.cellAt 5 (by omega)
  have c6 := HO.out.cellAt 6 (by omega)
  have f0 := HO.out.frozenAt 0
  have f1 := HO.out.frozenAt 1
  have f2 := HO.out.frozenAt 2
  have f3 := HO.out.frozenAt 3
  have f4 := HO.out.frozenAt 4
  have f5 := HO.out.frozenAt 5
  have f6 := HO.out.frozenAt 6
  simp only [List.getElem?_cons_zero, List.getElem?_cons_succ] at c0 c1 c2 c3 c4 c5 c6
  cases m with
  | zero =>
    have d1 : ((t.length : Int) == (xs.length : Int)) = true := by have := HM.out; rw [beq_iff_eq]; omega
    go_enter Try.func85, Try.ntmps85
    go_wp2_with fail
    go_quiet (fail)
    go_wp2_with fail
    go_ret2
    exact ⟨below_drewN' HB.out _, rfl, _, _, HST.out.drewN _⟩
  | succ m' =>
    have htl : t.length < xs.length := by have := HM.out; omega
    have d1 : ((t.length : Int) == (xs.length : Int)) = false := by rw [beq_eq_false_iff_ne]; omega
    have HIH2 := hid (HIH.out m' rfl)
    have HM2 := hid (show t.length + 1 + m' = xs.length by have := HM.out; omega)
    have HR := hid (show cutS (lens xs) strip saw mo (m' + 1) fr t l = loopC (fun k l2 => if frB fr k (strip + saw) < (lens xs).getD t.length 0 + saw then Cut.fail l2 else if l2 = 0 then Cut.full else cutS (lens xs) strip saw mo m' ((frA fr k (strip + saw)).set k (frB fr k (strip + saw) - ((lens xs).getD t.length 0 + saw))) (t ++ [k]) (l2 - 1)) (min (fr.length + 1) mo) 0 l from rfl)
    obtain ⟨nw, hnw⟩ : ∃ n, n = min (fr.length + 1) mo := ⟨_, rfl⟩
    have hnw1 : nw ≤ fr.length + 1 := by omega
    have hnw2 : nw ≤ mo := by omega
    have hnw3 : ∀ k, k ≤ fr.length → k < mo → k < nw := fun k h1 h2 => by omega
    have HNW := hid hnw3
    rw [← hnw] at HR
    clear HIH HM hnw hnw3
    go_enter Try.func85, Try.ntmps85
    go_wp2_with fail
    go_quiet (fail)
    go_wp2_with fail
    go_loopw [5] (fun i wr => ∃ (k l2 : Nat), (k ≤ nw ∧ i = .int .i64 k) ∧ Hid (cutS (lens xs) strip saw mo (m' + 1) fr t l = loopC (fun k l2 => if frB fr k (strip + saw) < (lens xs).getD t.length 0 + saw then Cut.fail l2 else if l2 = 0 then Cut.full else cutS (lens xs) strip saw mo m' ((frA fr k (strip + saw)).set k (frB fr k (strip + saw) - ((lens xs).getD t.length 0 + saw))) (t ++ [k]) (l2 - 1)) (nw - k) k l2) ∧ l2 ≤ 20000 ∧ Below b w0 wr ∧ CutAt b (.slice A xs.length c) strip saw fr t (l2 : Int) (mo : Int) wr) (fun i _ => nw - (intOf i).toNat)
    case atStart => exact ⟨0, l, ⟨Nat.zero_le _, rfl⟩, HR.out, hl, below_drewN' HB.out _, HST.out.drewN _⟩
    case round =>
      clear c0 f0 c1 f1 c2 f2 c3 f3 c4 f4 c5 f5 c6 f6 HO d1 HST HB HR
      obtain ⟨k, l2, ⟨hk, rfl⟩, HE, hl2, hbr, hst⟩ := hrel
      have SR := hid hst
      have BR := hid hbr
      have hbr2 := hst.lt
      clear hst hbr
      obtain ⟨Af, cf, At, ct, ho, hf, ht, hap⟩ := SR.out
      have HO := hid ho
      clear ho hf ht hap
      have c6 := HO.out.cellAt 6 (by omega)
      have f6 := HO.out.frozenAt 6
      simp only [List.getElem?_cons_zero, List.getElem?_cons_succ] at c6
      have q0 : (0 : Int) ≤ (k : Int) := by omega
      by_cases hk1 : k ≤ fr.length
      · by_cases hk2 : k < mo
        · have hkn := HNW.out k hk1 hk2
          have hle : nw - k = (nw - (k + 1)) + 1 := by omega
          have q1 : (k : Int) ≤ (fr.length : Int) := by omega
          have q2 : (k : Int) < (mo : Int) := by omega
          have hkh := frA_has (s := strip + saw) hk1
          have hfal : (frA fr k (strip + saw)).length ≤ mo ∧ fr.length ≤ (frA fr k (strip + saw)).length := by
            unfold frA
            split
            · exact ⟨hfl, Nat.le_refl _⟩
            · rw [List.length_append, List.length_singleton]; omega
          have HFAL := hid hfal
          have HLN := hid (lens_at htl)
          obtain ⟨z, hz⟩ : ∃ z, decide (frB fr k (strip + saw) < xs[t.length].fLength + saw) = z := ⟨_, rfl⟩
          have HZ := hid hz
          clear hz hfal
          go_wp2_with fail
          refine (take_ok xs A c b w0 HA.out HB0.out strip saw (l2 : Int) (mo : Int) fr t k wr hs0 hs1 HPP.out HF.out (by omega) htl (by omega) hk1 BR.out SR.out z HZ.out).mono ?_
          rintro e WN ⟨hb1, rfl, hz1, hz2⟩
          have BN := hid (BR.out.trans hb1)
          clear hb1 c6 f6 HO SR BR
          cases z
          · have SN := hid (hz2 rfl)
            have hF1 := hid (show cutS (lens xs) strip saw mo (m' + 1) fr t l = loopC (fun k l2 => if frB fr k (strip + saw) < (lens xs).getD t.length 0 + saw then Cut.fail l2 else if l2 = 0 then Cut.full else cutS (lens xs) strip saw mo m' ((frA fr k (strip + saw)).set k (frB fr k (strip + saw) - ((lens xs).getD t.length 0 + saw))) (t ++ [k]) (l2 - 1)) ((nw - (k + 1)) + 1) k l2 by rw [HE.out, hle])
            have hroom : ¬ frB fr k (strip + saw) < xs[t.length].fLength + saw := of_decide_eq_false HZ.out
            have HRM := hid hroom
            have hfb := frB_bd (k := k) HF.out (show 0 ≤ strip + saw ∧ strip + saw ≤ 200000 by omega) hk1
            obtain ⟨y0, y1⟩ := HPP.out xs[t.length] (List.getElem_mem htl)
            have HFR2 := hid (HF.out.set (k := k) (s := strip + saw) (v := frB fr k (strip + saw) - (xs[t.length].fLength + saw)) (by omega) (by omega))
            clear hz1 hz2 hroom
            obtain ⟨Af, cf, At, ct, ho, hf, ht, hap⟩ := SN.out
            have HO := hid ho
            clear ho hf ht hap
            have c5 := HO.out.cellAt 5 (by omega)
            have f5 := HO.out.frozenAt 5
            simp only [List.getElem?_cons_zero, List.getElem?_cons_succ] at c5
            by_cases hl0 : l2 = 0
            · have HEN := hid (show cutS (lens xs) strip saw mo (m' + 1) fr t l = .full by
                rw [hF1.out]
                exact loopC_full (by simp only [HLN.out, if_neg HRM.out, if_pos hl0]))
              have d2 : ((l2 : Int) == 0) = true := by rw [beq_iff_eq]; omega
              clear hl0
              go_wp2_with fail
              go_ret2
              refine ⟨BN.out, ?_⟩
              rw [HEN.out]
              exact rfl
            · have d2 : ((l2 : Int) == 0) = false := by rw [beq_eq_false_iff_ne]; omega
              have hl1 : 1 ≤ l2 := by omega
              have hF2 := hid (show (fun k l2 => if frB fr k (strip + saw) < (lens xs).getD t.length 0 + saw then Cut.fail l2 else if l2 = 0 then Cut.full else cutS (lens xs) strip saw mo m' ((frA fr k (strip + saw)).set k (frB fr k (strip + saw) - ((lens xs).getD t.length 0 + saw))) (t ++ [k]) (l2 - 1)) k l2 = cutS (lens xs) strip saw mo m' ((frA fr k (strip + saw)).set k (frB fr k (strip + saw) - (xs[t.length].fLength + saw))) (t ++ [k]) (l2 - 1) by simp only [HLN.out, if_neg HRM.out, if_neg hl0])
              have hcast : ((l2 : Int) - 1) = ((l2 - 1 : Nat) : Int) := by omega
              obtain ⟨hs3, hb3⟩ := SN.out.setLeft ((l2 : Int) - 1)
              have S3 := hid (show CutAt b (.slice A xs.length c) strip saw ((frA fr k (strip + saw)).set k (frB fr k (strip + saw) - (xs[t.length].fLength + saw))) (t ++ [k]) ((l2 - 1 : Nat) : Int) (mo : Int) (WN.setCell ⟨b, 5, none⟩ (.int .i64 ((l2 : Int) - 1))) by rw [← hcast]; exact hs3)
              have B3 := hid (BN.out.trans hb3)
              clear hl0 hs3 hb3 hcast
              go_upto_region 12 with fail
              generalize WN.setCell ⟨b, 5, none⟩ (.int .i64 ((l2 : Int) - 1)) = W3 at S3 B3 ⊢
              clear c5 f5 HO d2 SN BN
              go_wp2_with fail
              refine (HIH2.out _ (t ++ [k]) (l2 - 1) W3 (by have := HM2.out; rw [List.length_append, List.length_singleton]; omega) HFR2.out (by rw [List.length_set]; exact HFAL.out.1) (by omega) B3.out S3.out).mono ?_
              rintro e W4 ⟨hb4, hr⟩
              have B4 := hid hb4
              clear hb4
              cases hq : cutS (lens xs) strip saw mo m' ((frA fr k (strip + saw)).set k (frB fr k (strip + saw) - (xs[t.length].fLength + saw))) (t ++ [k]) (l2 - 1) with
              | full =>
                rw [hq] at hr
                obtain rfl := hr
                have HEN := hid (show cutS (lens xs) strip saw mo (m' + 1) fr t l = .full by
                  rw [hF1.out]
                  exact loopC_full (hF2.out.trans hq))
                clear hq
                go_wp2_with fail
                go_ret2
                refine ⟨B4.out, ?_⟩
                rw [HEN.out]
                exact rfl
              | solved t2 =>
                rw [hq] at hr
                obtain ⟨rfl, fr2, left2, hst2⟩ := hr
                have HEN := hid (show cutS (lens xs) strip saw mo (m' + 1) fr t l = .solved t2 by
                  rw [hF1.out]
                  exact loopC_solved (hF2.out.trans hq))
                have S4 := hid hst2
                clear hq hst2
                go_wp2_with fail
                go_ret2
                refine ⟨B4.out, ?_⟩
                rw [HEN.out]
                exact ⟨rfl, _, _, S4.out⟩
              | fail l3 =>
                rw [hq] at hr
                obtain ⟨rfl, hl3, hst3⟩ := hr
                have HEN := hid (show cutS (lens xs) strip saw mo (m' + 1) fr t l = loopC (fun k l2 => if frB fr k (strip + saw) < (lens xs).getD t.length 0 + saw then Cut.fail l2 else if l2 = 0 then Cut.full else cutS (lens xs) strip saw mo m' ((frA fr k (strip + saw)).set k (frB fr k (strip + saw) - ((lens xs).getD t.length 0 + saw))) (t ++ [k]) (l2 - 1)) (nw - (k + 1)) (k + 1) l3 by
                  rw [hF1.out]
                  exact loopC_fail (hF2.out.trans hq))
                clear hq
                obtain ⟨g4, cg4, ⟨e3, ⟨h1, h2⟩, h3⟩, e4, hst4, hb4⟩ := hst3.cutT
                have S4 := hid hst4
                have B4 := hid (B4.out.trans hb4)
                have r2 : (0 : Int) ≤ (t.length : Int) := by omega
                have r3 : (t.length : Int) ≤ (cg4 : Int) := by omega
                clear hst3 hst4 hb4
                go_wp2_with fail
                apply wp_post (R := fun w' => Below b w0 w' ∧ CutAt b (.slice A xs.length c) strip saw ((frA fr k (strip + saw)).set k (frB fr k (strip + saw) - (xs[t.length].fLength + saw))) t (l3 : Int) (mo : Int) w')
                · go_region
                  all_goals exact ⟨rfl, B4.out.drew, S4.out.drew⟩
                · rintro WN ⟨hb5, hst5⟩
                  have SN := hid hst5
                  have BN := hid hb5
                  clear hst5 hb5 e3 e4 h1 h2 h3 r2 r3
                  have hkl2 : k < ((frA fr k (strip + saw)).set k (frB fr k (strip + saw) - (xs[t.length].fLength + saw))).length := by rw [List.length_set]; exact hkh
                  obtain ⟨g5, cg5, ⟨e3, e4, e5⟩, ⟨e6, e7⟩, hset⟩ := SN.out.setF hkl2
                  have S5 := hid (hset (frB fr k (strip + saw))).1
                  have B5 := hid (BN.out.trans (hset (frB fr k (strip + saw))).2)
                  clear hset
                  have r0 : (0 : Int) ≤ (k : Int) := by omega
                  have r1 : (k : Int) < ((frA fr k (strip + saw)).set k (frB fr k (strip + saw) - (xs[t.length].fLength + saw))).length := by omega
                  go_upto_region 17 with fail
                  generalize WN.setCell ⟨g5, k, none⟩ (.int .i64 (frB fr k (strip + saw))) = W5 at S5 B5 ⊢
                  clear e3 e4 e5 e6 e7 r1
                  have S5 := hid (show CutAt b (.slice A xs.length c) strip saw (((frA fr k (strip + saw)).set k (frB fr k (strip + saw) - (xs[t.length].fLength + saw))).set k (frB fr k (strip + saw))) t (l3 : Int) (mo : Int) W5 from S5.out)
                  obtain ⟨g6, cg6, ⟨e3, ⟨h1, h2⟩, h3⟩, e4, hst6, hb6⟩ := S5.out.cutF (n := fr.length) (by rw [List.length_set, List.length_set]; exact HFAL.out.2) (by rw [List.length_set, List.length_set]; omega)
                  rw [frA_back hk1] at hst6
                  have S6 := hid hst6
                  have B6 := hid (B5.out.trans hb6)
                  have r2 : (0 : Int) ≤ (fr.length : Int) := by omega
                  have r3 : (fr.length : Int) ≤ (cg6 : Int) := by rw [List.length_set, List.length_set] at h1; have := HFAL.out.2; omega
                  clear hst6 hb6
                  rw [List.length_set, List.length_set] at h1 e3
                  have r4 := HFAL.out.2
                  go_wp2_with fail
                  go_roundw
                  case rel => exact ⟨k + 1, l3, ⟨by omega, by go_num⟩, HEN.out, hl3, B6.out, S6.out⟩
                  case measure => simp [intOf]; omega
          · have SN := hid (hz1 rfl)
            have HEN := hid (show cutS (lens xs) strip saw mo (m' + 1) fr t l = loopC (fun k l2 => if frB fr k (strip + saw) < (lens xs).getD t.length 0 + saw then Cut.fail l2 else if l2 = 0 then Cut.full else cutS (lens xs) strip saw mo m' ((frA fr k (strip + saw)).set k (frB fr k (strip + saw) - ((lens xs).getD t.length 0 + saw))) (t ++ [k]) (l2 - 1)) (nw - (k + 1)) (k + 1) l2 by
              rw [HE.out, hle]
              exact loopC_fail (by simp only [HLN.out, if_pos (of_decide_eq_true HZ.out)]))
            clear hz1 hz2
            have hkl2 : k < (frA fr k (strip + saw)).length := hkh
            have hfb := frB_bd (k := k) HF.out (show 0 ≤ strip + saw ∧ strip + saw ≤ 200000 by omega) hk1
            obtain ⟨g5, cg5, ⟨e3, e4, e5⟩, ⟨e6, e7⟩, hset⟩ := SN.out.setF hkl2
            have S5 := hid (hset (frB fr k (strip + saw))).1
            have B5 := hid (BN.out.trans (hset (frB fr k (strip + saw))).2)
            clear hset
            have r0 : (0 : Int) ≤ (k : Int) := by omega
            have r1 : (k : Int) < (frA fr k (strip + saw)).length := by omega
            go_upto_region 17 with fail
            generalize WN.setCell ⟨g5, k, none⟩ (.int .i64 (frB fr k (strip + saw))) = W5 at S5 B5 ⊢
            clear e3 e4 e5 e6 e7 r1
            have S5 := hid (show CutAt b (.slice A xs.length c) strip saw ((frA fr k (strip + saw)).set k (frB fr k (strip + saw))) t (l2 : Int) (mo : Int) W5 from S5.out)
            obtain ⟨g6, cg6, ⟨e3, ⟨h1, h2⟩, h3⟩, e4, hst6, hb6⟩ := S5.out.cutF (n := fr.length) (by rw [List.length_set]; exact HFAL.out.2) (by rw [List.length_set]; omega)
            rw [frA_back0 hk1] at hst6
            have S6 := hid hst6
            have B6 := hid (B5.out.trans hb6)
            have r2 : (0 : Int) ≤ (fr.length : Int) := by omega
            have r3 : (fr.length : Int) ≤ (cg6 : Int) := by rw [List.length_set] at h1; have := HFAL.out.2; omega
            clear hst6 hb6
            rw [List.length_set] at h1 e3
            have r4 := HFAL.out.2
            go_wp2_with fail
            go_roundw
            case rel => exact ⟨k + 1, l2, ⟨by omega, by go_num⟩, HEN.out, hl2, B6.out, S6.out⟩
            case measure => simp [intOf]; omega
        · have HEN := hid (show cutS (lens xs) strip saw mo (m' + 1) fr t l = .fail l2 by
            rw [HE.out, show nw - k = 0 by omega]
            rfl)
          have q1 : (k : Int) ≤ (fr.length : Int) := by omega
          have q2 : ¬ (k : Int) < (mo : Int) := by omega
          go_wp2_with fail
          go_ret2
          refine ⟨BR.out, ?_⟩
          rw [HEN.out]
          exact ⟨rfl, hl2, SR.out⟩
      · have HEN := hid (show cutS (lens xs) strip saw mo (m' + 1) fr t l = .fail l2 by
          rw [HE.out, show nw - k = 0 by omega]
          rfl)
        have q1 : ¬ (k : Int) ≤ (fr.length : Int) := by omega
        go_wp2_with fail
        go_ret2
        refine ⟨BR.out, ?_⟩
        rw [HEN.out]
        exact ⟨rfl, hl2, SR.out⟩
/-- the program's search -/
theorem cutSearch (xs : List DRib) (A : Option Addr) (c b mo : Nat) (w0 : World) (strip saw : Int) (hA : RowsAt w0 3 A (xs.map DRib.cells)) (hb0 : b = w0.heap.size) (hs0 : 1 ≤ strip ∧ strip ≤ 100000) (hs1 : 0 ≤ saw ∧ saw ≤ 100) (hP : ∀ x ∈ xs, 1 ≤ x.fLength ∧ x.fLength ≤ 10000) (hn : xs.length ≤ 8) (hmo : mo ≤ 8) : ∀ (m : Nat), ∀ (fr : List Int) (t : List Nat) (l : Nat) (w : World), t.length + m = xs.length → FrOk fr → fr.length ≤ mo → l ≤ 20000 → Below b w0 w → CutAt b (.slice A xs.length c) strip saw fr t (l : Int) (mo : Int) w →
    Calls Try.prog 85 #[.pointer (some ⟨b, 0, none⟩)] w (KPost b w0 (.slice A xs.length c) strip saw (mo : Int) (cutS (lens xs) strip saw mo m fr t l) fr t)
  | 0 => cut_step xs A c b mo w0 strip saw hA hb0 hs0 hs1 hP hn hmo 0 (fun m' h => by omega)
  | m + 1 => cut_step xs A c b mo w0 strip saw hA hb0 hs0 hs1 hP hn hmo (m + 1) (fun m' h => by
    obtain rfl : m = m' := by omega
    exact cutSearch xs A c b mo w0 strip saw hA hb0 hs0 hs1 hP hn hmo m)
end Go.Proofs.Ytdbjbkdcmhekfaa
