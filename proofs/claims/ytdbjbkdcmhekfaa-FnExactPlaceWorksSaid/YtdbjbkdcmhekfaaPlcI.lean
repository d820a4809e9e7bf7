/- PlaceWorks: the program's search. -/
import Derived.Test.YtdbjbkdcmhekfaaPlcV
namespace Go.Proofs.Ytdbjbkdcmhekfaa
open Go.RowKit
set_option linter.unusedVariables false


set_option maxHeartbeats 12800000 in
set_option maxRecDepth 100000 in
theorem plc_leaf (xs : List DWork) (A : Option Addr) (c b p cp n E : Nat) (gs : List Nat) (w0 : World) (hA : RowsAt w0 4 A (xs.map DWork.cells)) (hb0 : b = w0.heap.size) (hX : ∀ x ∈ xs, workD x = true) (hn : xs.length ≤ 8) (hn6 : n ≤ 6) : ∀ (i : Nat) (rows : List (List Int)) (l : Nat) (w : World), i + 0 = xs.length → rows.length = n → l ≤ 20000 → E ≤ w.heap.size → Below b w0 w → PlaS b p cp n (.slice A xs.length c) (l : Int) w → PlanR w (b + 1) E p cp gs rows →
    Calls Try.prog 92 #[.pointer (some ⟨b, 0, none⟩), .int .i64 (i : Int)] w (KPostP b p cp n E gs w0 w (.slice A xs.length c) (plcS xs 0 i rows l) rows) := by
  intro i rows l w hm hrn hl hE hbl hst hpl
  have d1 : ((i : Int) == (xs.length : Int)) = true := by rw [beq_iff_eq]; omega
  have HB := hid hbl
  have HST := hid hst
  have HPL := hid hpl
  have hbw := hst.lt
  have c0 := World.ownsRow.cellAt hst 0 (by omega)
  simp only [List.getElem?_cons_zero] at c0
  clear hA hX hm hbl hst hpl hb0
  go_enter Try.func92, Try.ntmps92
  go_wp2_with fail
  go_ret2
  exact ⟨⟨HB.out, Kp.refl _ _ _⟩, rfl, _, HST.out, HPL.out⟩

set_option maxHeartbeats 12800000 in
set_option maxRecDepth 100000 in
theorem plc_step (xs : List DWork) (A : Option Addr) (c b p cp n E : Nat) (gs : List Nat) (w0 : World) (hA : RowsAt w0 4 A (xs.map DWork.cells)) (hb0 : b = w0.heap.size) (hX : ∀ x ∈ xs, workD x = true) (hn : xs.length ≤ 8) (hn6 : n ≤ 6) (m' : Nat) (ih : ∀ (i : Nat) (rows : List (List Int)) (l : Nat) (w : World), i + m' = xs.length → rows.length = n → l ≤ 20000 → E ≤ w.heap.size → Below b w0 w → PlaS b p cp n (.slice A xs.length c) (l : Int) w → PlanR w (b + 1) E p cp gs rows →
    Calls Try.prog 92 #[.pointer (some ⟨b, 0, none⟩), .int .i64 (i : Int)] w (KPostP b p cp n E gs w0 w (.slice A xs.length c) (plcS xs m' i rows l) rows)) : ∀ (i : Nat) (rows : List (List Int)) (l : Nat) (w : World), i + (m' + 1) = xs.length → rows.length = n → l ≤ 20000 → E ≤ w.heap.size → Below b w0 w → PlaS b p cp n (.slice A xs.length c) (l : Int) w → PlanR w (b + 1) E p cp gs rows →
    Calls Try.prog 92 #[.pointer (some ⟨b, 0, none⟩), .int .i64 (i : Int)] w (KPostP b p cp n E gs w0 w (.slice A xs.length c) (plcS xs (m' + 1) i rows l) rows) := by
  intro i rows l w hm hrn hl hE hbl hst hpl
  have hil : i < xs.length := by omega
  have d1 : ((i : Int) == (xs.length : Int)) = false := by rw [beq_eq_false_iff_ne]; omega
  have HIH := hid ih
  have HRN := hid hrn
  have HM2 := hid (show i + 1 + m' = xs.length by omega)
  obtain ⟨ab, ao, hAe, hlt, hc⟩ := hA (by intro e; rw [List.map_eq_nil_iff] at e; rw [e] at hil; exact absurd hil (by simp))
  subst hAe
  obtain ⟨x, hx⟩ : ∃ x, xs[i]? = some x := ⟨_, List.getElem?_eq_getElem hil⟩
  have hci : (xs.map DWork.cells)[i]? = some x.cells := by rw [List.getElem?_map, hx]; rfl
  have BW : Below w0.heap.size w0 w := by rw [← hb0]; exact hbl
  have x0 : w.cell? ⟨ab, ao + i * 4, none⟩ = some (.string x.fId) := (BW.cell (p := ⟨ab, ao + i * 4, none⟩) hlt).trans (hc i _ hci 0 _ rfl)
  have x1 : w.cell? ⟨ab, ao + i * 4 + 1, none⟩ = some (.int .i64 x.fDays) := (BW.cell (p := ⟨ab, ao + i * 4 + 1, none⟩) hlt).trans (hc i _ hci 1 _ rfl)
  have x2 : w.cell? ⟨ab, ao + i * 4 + 2, none⟩ = some (.int .i64 x.fFirst) := (BW.cell (p := ⟨ab, ao + i * 4 + 2, none⟩) hlt).trans (hc i _ hci 2 _ rfl)
  have x3 : w.cell? ⟨ab, ao + i * 4 + 3, none⟩ = some (.int .i64 x.fLast) := (BW.cell (p := ⟨ab, ao + i * 4 + 3, none⟩) hlt).trans (hc i _ hci 3 _ rfl)
  have HR := hid (show plcS xs (m' + 1) i rows l = loopP (fun b2 l2 => loopP (fun d l3 => if freeB (rowN rows b2) (fstN x + d) (dayN x) = false then Plc.fail l3 else if l3 = 0 then Plc.full else plcS xs m' (i + 1) (rows.set b2 (fillT (rowN rows b2) (fstN x + d) ((i : Int) + 1) (dayN x))) (l3 - 1)) (cntN x) 0 l2) rows.length 0 l by rw [plcS, hx])
  rw [hrn] at HR
  obtain ⟨⟨y0, y1⟩, ⟨y2, y3⟩, ⟨y4, y5⟩, y6⟩ := workD_bd (hX x (List.mem_of_getElem? hx))
  have HF1 := hid (show x.fFirst = (fstN x : Int) by unfold fstN; omega)
  have HD1 := hid (show x.fDays = (dayN x : Int) by unfold dayN; omega)
  have HC1 := hid (show (cntN x : Int) = x.fLast - x.fFirst - x.fDays + 2 by unfold cntN; omega)
  have HD2 := hid (show 1 ≤ dayN x ∧ dayN x ≤ 40 by unfold dayN; omega)
  have HF2 := hid (show fstN x ≤ 39 by unfold fstN; omega)
  have HC2 := hid (show cntN x ≤ 41 by unfold cntN; omega)
  obtain ⟨cnt, hcnt⟩ : ∃ q, cntN x = q := ⟨_, rfl⟩
  have HCN := hid hcnt
  have hcb : cnt ≤ 41 := by have := HC2.out; omega
  have hbw := hst.lt
  have S1 := hid (hst.below (below_alloc w (.cells #[.string x.fId, .int .i64 x.fDays, .int .i64 x.fFirst, .int .i64 x.fLast] 132)))
  have P1 := hid (hpl.below (below_alloc w (.cells #[.string x.fId, .int .i64 x.fDays, .int .i64 x.fFirst, .int .i64 x.fLast] 132)))
  have B1 := hid (hbl.alloc (Nat.le_of_lt hbw) (.cells #[.string x.fId, .int .i64 x.fDays, .int .i64 x.fFirst, .int .i64 x.fLast] 132))
  have K1 := hid (Kp.of_below (b := b) (gs := gs) (below_alloc w (.cells #[.string x.fId, .int .i64 x.fDays, .int .i64 x.fFirst, .int .i64 x.fLast] 132)))
  have NC := HasC.new w [.string x.fId, .int .i64 x.fDays, .int .i64 x.fFirst, .int .i64 x.fLast] 132
  have X1 := hid (show XW w.heap.size [.string x.fId, .int .i64 x.fDays, .int .i64 x.fFirst, .int .i64 x.fLast] (w.alloc (.cells #[.string x.fId, .int .i64 x.fDays, .int .i64 x.fFirst, .int .i64 x.fLast] 132)) from ⟨NC.1, NC.2⟩)
  have hxb : w.heap.size ≠ b := by omega
  have hxg : w.heap.size ∉ gs := fun h => by have := hpl.gsl _ h; omega
  have i0 : (0 : Int) ≤ (i : Int) := by omega
  have i1 : (i : Int) < xs.length := by omega
  have c0 := World.ownsRow.cellAt hst 0 (by omega)
  simp only [List.getElem?_cons_zero] at c0
  clear hA hX ih hm hrn hbl hst hpl hc hx hci BW NC hcnt hb0
  go_enter Try.func92, Try.ntmps92
  go_upto_region 4 with fail
  generalize w.alloc (.cells #[.string x.fId, .int .i64 x.fDays, .int .i64 x.fFirst, .int .i64 x.fLast] 132) = W1 at S1 P1 B1 K1 X1 ⊢
  have hxw : w.heap.size ≤ W1.heap.size := K1.out.size
  generalize hxe : w.heap.size = xb at X1 hxb hxg ⊢
  clear hxe c0 x0 x1 x2 x3
  have c1 := World.ownsRow.cellAt S1.out 1 (by omega)
  simp only [List.getElem?_cons_zero, List.getElem?_cons_succ] at c1
  go_wp2_with fail
  clear c1
  go_loopw [29] (fun v wr => ∃ (k l2 : Nat), (k ≤ n ∧ v = .int .i64 (k : Int)) ∧ Hid (plcS xs (m' + 1) i rows l = loopP (fun b2 l2 => loopP (fun d l3 => if freeB (rowN rows b2) (fstN x + d) (dayN x) = false then Plc.fail l3 else if l3 = 0 then Plc.full else plcS xs m' (i + 1) (rows.set b2 (fillT (rowN rows b2) (fstN x + d) ((i : Int) + 1) (dayN x))) (l3 - 1)) (cntN x) 0 l2) (n - k) k l2) ∧ l2 ≤ 20000 ∧ (Below b w0 wr ∧ Kp b gs w wr) ∧ PlaS b p cp n (.slice (some ⟨ab, ao, none⟩) xs.length c) (l2 : Int) wr ∧ PlanR wr (b + 1) E p cp gs rows ∧ XW xb [.string x.fId, .int .i64 x.fDays, .int .i64 x.fFirst, .int .i64 x.fLast] wr) (fun v _ => n - (intOf v).toNat)
  case atStart => exact ⟨0, l, ⟨Nat.zero_le _, rfl⟩, HR.out, hl, ⟨B1.out, K1.out⟩, S1.out, P1.out, X1.out⟩
  case round =>
    clear S1 P1 B1 K1 X1 HR d1 hxw
    rename World => wo
    obtain ⟨k, l2, ⟨hk, rfl⟩, HE, hl2, ⟨hbr, hkr⟩, hst, hpl, hxw⟩ := hrel
    have SR := hid hst
    have PR := hid hpl
    have BR := hid hbr
    have KR := hid hkr
    have XR := hid hxw
    clear hst hpl hbr hkr hxw
    have q0 : (0 : Int) ≤ (k : Int) := by omega
    by_cases hkl : k < n
    · have q1 : (k : Int) < (n : Int) := by omega
      obtain ⟨r, hr⟩ : ∃ r, rows[k]? = some r := ⟨_, List.getElem?_eq_getElem (by rw [HRN.out]; exact hkl)⟩
      have HRK := hid (show rowN rows k = r by rw [rowN_at (by rw [HRN.out]; exact hkl)]; rw [List.getElem?_eq_getElem (by rw [HRN.out]; exact hkl)] at hr; injection hr)
      have HRR := hid hr
      obtain ⟨g, hg, hc1, -, hrl, hpw, hgw⟩ := PR.out.row hr
      have hgs := PR.out.gsl g (List.mem_of_getElem? hg)
      have HG := hid hg
      have HGM := hid (List.mem_of_getElem? hg)
      have HPL := hid (show ∀ W, PlanR W (b + 1) E p cp gs rows → W.ownsRow g 2 1 (gV g) 40 (iVP r) from fun W h => h.inner k g r HG.out HRR.out)
      have hle : n - k = (n - (k + 1)) + 1 := by omega
      have c1 : wo.cell? ⟨p, k, none⟩ = some (.slice (some ⟨g, 0, none⟩) 40 40) := hc1
      have z2 := XR.out.cell 2 _ rfl
      clear hr hg hc1
      go_wp2_with fail
      clear c1 z2
      go_loopw [9] (fun v wr => ∃ (d l3 : Nat), (d ≤ cnt ∧ v = .int .i64 (x.fFirst + (d : Int))) ∧ Hid ((fun b2 l2 => loopP (fun d l3 => if freeB (rowN rows b2) (fstN x + d) (dayN x) = false then Plc.fail l3 else if l3 = 0 then Plc.full else plcS xs m' (i + 1) (rows.set b2 (fillT (rowN rows b2) (fstN x + d) ((i : Int) + 1) (dayN x))) (l3 - 1)) (cntN x) 0 l2) k l2 = loopP (fun d l3 => if freeB (rowN rows k) (fstN x + d) (dayN x) = false then Plc.fail l3 else if l3 = 0 then Plc.full else plcS xs m' (i + 1) (rows.set k (fillT (rowN rows k) (fstN x + d) ((i : Int) + 1) (dayN x))) (l3 - 1)) (cnt - d) d l3) ∧ l3 ≤ 20000 ∧ (Below b w0 wr ∧ Kp b gs w wr) ∧ PlaS b p cp n (.slice (some ⟨ab, ao, none⟩) xs.length c) (l3 : Int) wr ∧ PlanR wr (b + 1) E p cp gs rows ∧ XW xb [.string x.fId, .int .i64 x.fDays, .int .i64 x.fFirst, .int .i64 x.fLast] wr) (fun v _ => cnt - (intOf v - x.fFirst).toNat)
      case atStart => exact ⟨0, l2, ⟨Nat.zero_le _, by simp⟩, by rw [← HCN.out]; rfl, hl2, ⟨BR.out, KR.out⟩, SR.out, PR.out, XR.out⟩
      case round =>
        clear SR PR BR KR XR
        rename World => W2
        obtain ⟨d, l3, ⟨hd, rfl⟩, HI, hl3, ⟨hbr, hkr⟩, hst, hpl, hxw⟩ := hrel
        have S2 := hid hst
        have P2 := hid hpl
        have B2 := hid hbr
        have K2 := hid hkr
        have X2 := hid hxw
        clear hst hpl hbr hkr hxw
        have z1 := X2.out.cell 1 _ rfl
        have z3 := X2.out.cell 3 _ rfl
        by_cases hdl : d < cnt
        · have hq1 : x.fFirst + (d : Int) + x.fDays - 1 ≤ x.fLast := by have := HC1.out; have := HCN.out; omega
          have hld : cnt - d = (cnt - (d + 1)) + 1 := by omega
          have hfd : fstN x + d ≤ 1000 := by have := HF2.out; omega
          obtain ⟨z, hz⟩ : ∃ z, freeB r (fstN x + d) (dayN x) = z := ⟨_, rfl⟩
          have HZ := hid hz
          clear hz
          go_wp2_with fail
          refine (free_gen g r (fstN x + d) (dayN x) _ _ _ (HPL.out _ P2.out) hfd HD2.out.2 HD2.out.1 (by have := HF1.out; omega) HD1.out z HZ.out).mono ?_
          rintro e w6 ⟨rfl, rfl⟩
          cases z
          · have HEN := hid (show (fun b2 l2 => loopP (fun d l3 => if freeB (rowN rows b2) (fstN x + d) (dayN x) = false then Plc.fail l3 else if l3 = 0 then Plc.full else plcS xs m' (i + 1) (rows.set b2 (fillT (rowN rows b2) (fstN x + d) ((i : Int) + 1) (dayN x))) (l3 - 1)) (cntN x) 0 l2) k l2 = loopP (fun d l3 => if freeB (rowN rows k) (fstN x + d) (dayN x) = false then Plc.fail l3 else if l3 = 0 then Plc.full else plcS xs m' (i + 1) (rows.set k (fillT (rowN rows k) (fstN x + d) ((i : Int) + 1) (dayN x))) (l3 - 1)) (cnt - (d + 1)) (d + 1) l3 by
              refine HI.out.trans ?_
              rw [hld]
              exact loopP_fail (by show (if freeB (rowN rows k) (fstN x + d) (dayN x) = false then Plc.fail l3 else _) = _; rw [HRK.out, HZ.out, if_pos rfl]))
            go_wp2_with fail
            go_roundw
            case rel => exact ⟨d + 1, l3, ⟨by omega, by go_num⟩, HEN.out, hl3, ⟨B2.out, K2.out⟩, S2.out, P2.out, X2.out⟩
            case measure => simp [intOf]; omega
          · obtain ⟨hf40, hfr⟩ := freeB_iff.1 HZ.out
            have HFR := hid hfr
            have c2 := World.ownsRow.cellAt S2.out 2 (by omega)
            have f2 := World.ownsRow.frozenAt S2.out 2
            simp only [List.getElem?_cons_zero, List.getElem?_cons_succ] at c2
            by_cases hl0 : l3 = 0
            · have HEN := hid (show plcS xs (m' + 1) i rows l = .full by
                rw [HE.out, hle]
                refine loopP_full ?_
                refine HI.out.trans ?_
                rw [hld]
                exact loopP_full (by show (if freeB (rowN rows k) (fstN x + d) (dayN x) = false then Plc.fail l3 else if l3 = 0 then Plc.full else _) = _; rw [HRK.out, HZ.out, if_neg (by simp), if_pos hl0]))
              have d2 : ((l3 : Int) == 0) = true := by rw [beq_iff_eq]; omega
              clear hl0 hfr
              go_wp2_with fail
              go_ret2
              refine ⟨⟨B2.out, K2.out⟩, ?_⟩
              rw [HEN.out]
              exact rfl
            · have d2 : ((l3 : Int) == 0) = false := by rw [beq_eq_false_iff_ne]; omega
              have hl1 : 1 ≤ l3 := by omega
              obtain ⟨rows2, hrows2⟩ : ∃ q, q = rows.set k (fillT r (fstN x + d) ((i : Int) + 1) (dayN x)) := ⟨_, rfl⟩
              have HGE := hid (show (fun d l3 => if freeB (rowN rows k) (fstN x + d) (dayN x) = false then Plc.fail l3 else if l3 = 0 then Plc.full else plcS xs m' (i + 1) (rows.set k (fillT (rowN rows k) (fstN x + d) ((i : Int) + 1) (dayN x))) (l3 - 1)) d l3 = plcS xs m' (i + 1) rows2 (l3 - 1) by
                show (if freeB (rowN rows k) (fstN x + d) (dayN x) = false then Plc.fail l3 else if l3 = 0 then Plc.full else plcS xs m' (i + 1) (rows.set k (fillT (rowN rows k) (fstN x + d) ((i : Int) + 1) (dayN x))) (l3 - 1)) = _
                rw [HRK.out, HZ.out, if_neg (by simp), if_neg hl0, ← hrows2])
              have HRW := hid hrows2
              have hcast : ((l3 : Int) - 1) = ((l3 - 1 : Nat) : Int) := by omega
              have S3 := hid (show PlaS b p cp n (.slice (some ⟨ab, ao, none⟩) xs.length c) ((l3 - 1 : Nat) : Int) (W2.setCell ⟨b, 2, none⟩ (.int .i64 ((l3 : Int) - 1))) by rw [← hcast]; exact S2.out.setLeft _)
              have P3 := hid (P2.out.chg (chg_one W2 b 2 (.int .i64 ((l3 : Int) - 1))) (.inl (Nat.le_refl _)))
              have B3 := hid (B2.out.setCell (p := ⟨b, 2, none⟩) (Nat.le_refl _) (.int .i64 ((l3 : Int) - 1)))
              have K3 := hid (K2.out.trans (Kp.of_struct (gs := gs) (chg_one W2 b 2 (.int .i64 ((l3 : Int) - 1)))))
              have X3 := hid (X2.out.kept (Kp.of_struct (gs := gs) (chg_one W2 b 2 (.int .i64 ((l3 : Int) - 1)))) hxb hxg)
              clear hl0 hfr hcast hrows2 z3
              go_upto_region 14 with fail
              generalize W2.setCell ⟨b, 2, none⟩ (.int .i64 ((l3 : Int) - 1)) = W3 at S3 P3 B3 K3 X3 ⊢
              clear c2 f2 d2 z1 S2 P2 B2 K2 X2
              have z1 := X3.out.cell 1 _ rfl
              go_wp2_with fail
              refine (fill_gen g r (fstN x + d) (dayN x) _ _ ((i : Int) + 1) _ (HPL.out _ P3.out) hf40 (by have := HF1.out; omega) HD1.out).mono ?_
              rintro e W4 ⟨rfl, ho4, hq4⟩
              have P4 := hid (show PlanR W4 (b + 1) E p cp gs rows2 by rw [HRW.out]; exact P3.out.set HG.out hq4 ho4)
              have S4 := hid (S3.out.side hq4 (by omega))
              have B4 := hid (B3.out.trans ((hq4.below (Nat.le_of_lt (by have := K3.out.size; have := hq4.size; have := (World.ownsRow.lt (HPL.out _ P3.out) g rfl).2; omega))).mono (by omega)))
              have K4 := hid (K3.out.trans (Kp.of_row hq4 HGM.out))
              have X4 := hid (X3.out.kept (Kp.of_row (b := b) hq4 HGM.out) hxb hxg)
              clear ho4 hq4 z1 S3 P3 B3 K3 X3
              go_wp2_with fail
              refine (HIH.out (i + 1) rows2 (l3 - 1) W4 HM2.out (by rw [HRW.out, List.length_set]; exact HRN.out) (by omega) (Nat.le_trans hE K4.out.size) B4.out S4.out P4.out).mono ?_
              rintro e W5 ⟨⟨hb5, hk5⟩, hres⟩
              have B5 := hid hb5
              have K5 := hid (K4.out.trans hk5)
              have X5 := hid (X4.out.kept hk5 hxb hxg)
              clear hb5 hk5 S4 P4 B4 K4 X4
              cases hq : plcS xs m' (i + 1) rows2 (l3 - 1) with
              | full =>
                rw [hq] at hres
                obtain rfl := hres
                have HEN := hid (show plcS xs (m' + 1) i rows l = .full by
                  rw [HE.out, hle]
                  refine loopP_full ?_
                  refine HI.out.trans ?_
                  rw [hld]
                  exact loopP_full (HGE.out.trans hq))
                clear hq
                go_wp2_with fail
                go_ret2
                refine ⟨⟨B5.out, K5.out⟩, ?_⟩
                rw [HEN.out]
                exact rfl
              | solved p2 =>
                rw [hq] at hres
                obtain ⟨rfl, left5, hs5, hp5⟩ := hres
                have S5 := hid hs5
                have P5 := hid hp5
                have HEN := hid (show plcS xs (m' + 1) i rows l = .solved p2 by
                  rw [HE.out, hle]
                  refine loopP_solved ?_
                  refine HI.out.trans ?_
                  rw [hld]
                  exact loopP_solved (HGE.out.trans hq))
                clear hq hs5 hp5
                go_wp2_with fail
                go_ret2
                refine ⟨⟨B5.out, K5.out⟩, ?_⟩
                rw [HEN.out]
                exact ⟨rfl, _, S5.out, P5.out⟩
              | fail l4 =>
                rw [hq] at hres
                obtain ⟨rfl, hl4, hs5, hp5⟩ := hres
                have S5 := hid hs5
                have P5 := hid hp5
                have HEN := hid (show (fun b2 l2 => loopP (fun d l3 => if freeB (rowN rows b2) (fstN x + d) (dayN x) = false then Plc.fail l3 else if l3 = 0 then Plc.full else plcS xs m' (i + 1) (rows.set b2 (fillT (rowN rows b2) (fstN x + d) ((i : Int) + 1) (dayN x))) (l3 - 1)) (cntN x) 0 l2) k l2 = loopP (fun d l3 => if freeB (rowN rows k) (fstN x + d) (dayN x) = false then Plc.fail l3 else if l3 = 0 then Plc.full else plcS xs m' (i + 1) (rows.set k (fillT (rowN rows k) (fstN x + d) ((i : Int) + 1) (dayN x))) (l3 - 1)) (cnt - (d + 1)) (d + 1) l4 by
                  refine HI.out.trans ?_
                  rw [hld]
                  exact loopP_fail (HGE.out.trans hq))
                have ho5 : W5.ownsRow g 2 1 (gV g) 40 (iVP (fillT r (fstN x + d) ((i : Int) + 1) (dayN x))) := hp5.inner k g _ HG.out (by rw [HRW.out, List.getElem?_set_self (by rw [HRN.out]; exact hkl)])
                have HO5 := hid ho5
                clear hq hs5 hp5 ho5
                have z1 := X5.out.cell 1 _ rfl
                go_wp2_with fail
                refine (fill_gen g _ (fstN x + d) (dayN x) _ _ 0 _ HO5.out hf40 (by have := HF1.out; omega) HD1.out).mono ?_
                rintro e W6 ⟨rfl, ho6, hq6⟩
                rw [fill_back (by omega) HFR.out] at ho6
                have P6 := hid (show PlanR W6 (b + 1) E p cp gs rows by
                  have h9 := P5.out.set HG.out hq6 ho6
                  rw [HRW.out, rows_back HRR.out] at h9
                  exact h9)
                have S6 := hid (S5.out.side hq6 (by omega))
                have B6 := hid (B5.out.trans ((hq6.below (Nat.le_of_lt (World.ownsRow.lt HO5.out g rfl).2)).mono (by omega)))
                have K6 := hid (K5.out.trans (Kp.of_row hq6 HGM.out))
                have X6 := hid (X5.out.kept (Kp.of_row (b := b) hq6 HGM.out) hxb hxg)
                clear ho6 hq6 z1 S5 P5 B5 K5 X5 HO5
                go_wp2_with fail
                go_roundw
                case rel => exact ⟨d + 1, l4, ⟨by omega, by go_num⟩, HEN.out, hl4, ⟨B6.out, K6.out⟩, S6.out, P6.out, X6.out⟩
                case measure => simp [intOf]; omega
        · have hq1 : ¬ x.fFirst + (d : Int) + x.fDays - 1 ≤ x.fLast := by have := HC1.out; have := HCN.out; omega
          have HEN := hid (show plcS xs (m' + 1) i rows l = loopP (fun b2 l2 => loopP (fun d l3 => if freeB (rowN rows b2) (fstN x + d) (dayN x) = false then Plc.fail l3 else if l3 = 0 then Plc.full else plcS xs m' (i + 1) (rows.set b2 (fillT (rowN rows b2) (fstN x + d) ((i : Int) + 1) (dayN x))) (l3 - 1)) (cntN x) 0 l2) (n - (k + 1)) (k + 1) l3 by
            rw [HE.out, hle]
            refine loopP_fail ?_
            refine HI.out.trans ?_
            rw [show cnt - d = 0 by omega]
            rfl)
          go_wp2_with fail
          go_roundw
          case rel => exact ⟨k + 1, l3, ⟨by omega, by go_num⟩, HEN.out, hl3, ⟨B2.out, K2.out⟩, S2.out, P2.out, X2.out⟩
          case measure => simp [intOf]; omega
    · have hk2 : k = n := by omega
      have q1 : ¬ (k : Int) < (n : Int) := by omega
      have HEN := hid (show plcS xs (m' + 1) i rows l = .fail l2 by rw [HE.out, show n - k = 0 by omega]; rfl)
      clear hk2
      go_wp2_with fail
      go_ret2
      refine ⟨⟨BR.out, KR.out⟩, ?_⟩
      rw [HEN.out]
      exact ⟨rfl, hl2, SR.out, PR.out⟩
/-- the program's search -/
theorem plcSearch (xs : List DWork) (A : Option Addr) (c b p cp n E : Nat) (gs : List Nat) (w0 : World) (hA : RowsAt w0 4 A (xs.map DWork.cells)) (hb0 : b = w0.heap.size) (hX : ∀ x ∈ xs, workD x = true) (hn : xs.length ≤ 8) (hn6 : n ≤ 6) : ∀ (m : Nat), ∀ (i : Nat) (rows : List (List Int)) (l : Nat) (w : World), i + m = xs.length → rows.length = n → l ≤ 20000 → E ≤ w.heap.size → Below b w0 w → PlaS b p cp n (.slice A xs.length c) (l : Int) w → PlanR w (b + 1) E p cp gs rows →
    Calls Try.prog 92 #[.pointer (some ⟨b, 0, none⟩), .int .i64 (i : Int)] w (KPostP b p cp n E gs w0 w (.slice A xs.length c) (plcS xs m i rows l) rows)
  | 0 => plc_leaf xs A c b p cp n E gs w0 hA hb0 hX hn hn6
  | m + 1 => plc_step xs A c b p cp n E gs w0 hA hb0 hX hn hn6 m (plcSearch xs A c b p cp n E gs w0 hA hb0 hX hn hn6 m)
end Go.Proofs.Ytdbjbkdcmhekfaa
