/- PlaceWorks: the reference's search. -/
import Derived.Test.YtdbjbkdcmhekfaaPlcV
import Derived.Deep.QuietTactic
namespace Go.Proofs.Ytdbjbkdcmhekfaa
open Go.RowKit
set_option linter.unusedVariables false

def contP (f : Nat → Nat → Plc) (m k : Nat) : Plc → Plc
  | .fail l => loopP f m k l
  | .full => .full
  | .solved t => .solved t
theorem loopP_cont {f : Nat → Nat → Plc} {m k l : Nat} : loopP f (m + 1) k l = contP f m (k + 1) (f k l) := by
  rw [loopP]
  cases f k l <;> rfl
theorem PlanR.drew {w : World} {B E p c : Nat} {gs : List Nat} {rows : List (List Int)} (h : PlanR w B E p c gs rows) : PlanR w.drew B E p c gs rows := ⟨h.outer, h.len, h.apart, h.away, h.gl, h.gsl, h.inner⟩
theorem PlanR.drewN {w : World} {B E p c : Nat} {gs : List Nat} {rows : List (List Int)} (h : PlanR w B E p c gs rows) (m : Nat) : PlanR (w.drewN m) B E p c gs rows := ⟨h.outer, h.len, h.apart, h.away, h.gl, h.gsl, h.inner⟩
theorem chg_cell {g : Nat} {w w' : World} (q : Chg g (g + 1) w w') : ∀ (k i : Nat) (v : Value), k < w.heap.size → k ≠ g → w.cell? ⟨k, i, none⟩ = some v → w'.cell? ⟨k, i, none⟩ = some v := fun k i v hk hg h => (World.cell?_of_block (a := ⟨k, i, none⟩) (q.block k hk (by omega))).trans h

set_option maxHeartbeats 12800000 in
set_option maxRecDepth 100000 in
theorem plr_leaf (xs : List DWork) (A : Option Addr) (c b p cp n E : Nat) (gs : List Nat) (w0 : World) (hA : RowsAt w0 4 A (xs.map DWork.cells)) (hb0 : b = w0.heap.size) (hX : ∀ x ∈ xs, workD x = true) (hn : xs.length ≤ 8) (hn6 : n ≤ 6) (bud : Int) (hbud : bud ≤ 20000) : ∀ (i : Nat) (rows : List (List Int)) (l : Nat) (w : World), i + 0 = xs.length → rows.length = n → (l : Int) ≤ bud → Below b w0 w → PlrS b p cp n (.slice A xs.length c) (bud - (l : Int)) bud false w → PlanR w (b + 1) E p cp gs rows →
    Calls Try.prog 145 #[.pointer (some ⟨b, 0, none⟩), .int .i64 (i : Int)] w (LPostP b p cp n E gs w0 (.slice A xs.length c) bud (plcS xs 0 i rows l) rows) := by
  intro i rows l w hm hrn hl hbl hst hpl
  have d1 : ((i : Int) == (xs.length : Int)) = true := by rw [beq_iff_eq]; omega
  have HB := hid hbl
  have HST := hid hst
  have HPL := hid hpl
  have hbw := hst.lt
  have c0 := World.ownsRow.cellAt hst 0 (by omega)
  simp only [List.getElem?_cons_zero] at c0
  clear hA hX hm hbl hst hpl hb0
  go_enter Try.func145, Try.ntmps145
  go_wp2_with fail
  go_ret
  exact ⟨HB.out, rfl, _, _, HST.out, HPL.out⟩

set_option maxHeartbeats 12800000 in
set_option maxRecDepth 100000 in
theorem plr_step (xs : List DWork) (A : Option Addr) (c b p cp n E : Nat) (gs : List Nat) (w0 : World) (hA : RowsAt w0 4 A (xs.map DWork.cells)) (hb0 : b = w0.heap.size) (hX : ∀ x ∈ xs, workD x = true) (hn : xs.length ≤ 8) (hn6 : n ≤ 6) (bud : Int) (hbud : bud ≤ 20000) (m' : Nat) (ih : ∀ (i : Nat) (rows : List (List Int)) (l : Nat) (w : World), i + m' = xs.length → rows.length = n → (l : Int) ≤ bud → Below b w0 w → PlrS b p cp n (.slice A xs.length c) (bud - (l : Int)) bud false w → PlanR w (b + 1) E p cp gs rows →
    Calls Try.prog 145 #[.pointer (some ⟨b, 0, none⟩), .int .i64 (i : Int)] w (LPostP b p cp n E gs w0 (.slice A xs.length c) bud (plcS xs m' i rows l) rows)) : ∀ (i : Nat) (rows : List (List Int)) (l : Nat) (w : World), i + (m' + 1) = xs.length → rows.length = n → (l : Int) ≤ bud → Below b w0 w → PlrS b p cp n (.slice A xs.length c) (bud - (l : Int)) bud false w → PlanR w (b + 1) E p cp gs rows →
    Calls Try.prog 145 #[.pointer (some ⟨b, 0, none⟩), .int .i64 (i : Int)] w (LPostP b p cp n E gs w0 (.slice A xs.length c) bud (plcS xs (m' + 1) i rows l) rows) := by
  intro i rows l w hm hrn hl hbl hst hpl
  have hil : i < xs.length := by omega
  have d1 : ((i : Int) == (xs.length : Int)) = false := by rw [beq_eq_false_iff_ne]; omega
  have HIH := hid ih
  have HRN := hid hrn
  have HM2 := hid (show i + 1 + m' = xs.length by omega)
  obtain ⟨ab, ao, hAe, hlt, hc⟩ := hA (by intro e; rw [List.map_eq_nil_iff] at e; rw [e] at hil; exact absurd hil (by simp))
  subst hAe
  obtain ⟨x, hx⟩ : ∃ x, xs[i]? = some x := ⟨_, List.getElem?_eq_getElem hil⟩
  have hci : (xs.map DWork.cells)[i]? = some x.cells := by rw [List.getElem?_map, hx]; rfl
  have hab : ab < b := by omega
  have HZ1 := hid (show w0.cell? ⟨ab, ao + i * 4 + 1, none⟩ = some (.int .i64 x.fDays) from hc i _ hci 1 _ rfl)
  have HZ2 := hid (show w0.cell? ⟨ab, ao + i * 4 + 2, none⟩ = some (.int .i64 x.fFirst) from hc i _ hci 2 _ rfl)
  have HZ3 := hid (show w0.cell? ⟨ab, ao + i * 4 + 3, none⟩ = some (.int .i64 x.fLast) from hc i _ hci 3 _ rfl)
  have HR := hid (show plcS xs (m' + 1) i rows l = loopP (fun b2 l2 => loopP (fun d l3 => if freeB (rowN rows b2) (fstN x + d) (dayN x) = false then Plc.fail l3 else if l3 = 0 then Plc.full else plcS xs m' (i + 1) (rows.set b2 (fillT (rowN rows b2) (fstN x + d) ((i : Int) + 1) (dayN x))) (l3 - 1)) (cntN x) 0 l2) rows.length 0 l by rw [plcS, hx])
  rw [hrn] at HR
  obtain ⟨⟨y0, y1⟩, ⟨y2, y3⟩, ⟨y4, y5⟩, y6⟩ := workD_bd (hX x (List.mem_of_getElem? hx))
  have HF1 := hid (show x.fFirst = (fstN x : Int) by unfold fstN; omega)
  have HD1 := hid (show x.fDays = (dayN x : Int) by unfold dayN; omega)
  have HC1 := hid (show (cntN x : Int) = x.fLast - x.fFirst - x.fDays + 2 by unfold cntN; omega)
  have HD2 := hid (show 1 ≤ dayN x ∧ dayN x ≤ 40 by unfold dayN; omega)
  have HF2 := hid (show fstN x ≤ 39 by unfold fstN; omega)
  have HC2 := hid (show cntN x ≤ 41 by unfold cntN; omega)
  obtain ⟨cnt, hcnt⟩ : ∃ q, cntN x = q := ⟨_, rfl⟩
  have HCN := hid hcnt
  have hcb : cnt ≤ 41 := by have := HC2.out; omega
  have hbw := hst.lt
  have HST := hid hst
  have HPL := hid hpl
  have HB := hid hbl
  have i0 : (0 : Int) ≤ (i : Int) := by omega
  have i1 : (i : Int) < xs.length := by omega
  have vi : IntKind.i64.wrap ((i : Int) + 1) = (i : Int) + 1 := IntWalk.i64_in _ (by omega)
  have vi0 : IntKind.i64.wrap (0 : Int) = 0 := by decide
  have c0 := World.ownsRow.cellAt hst 0 (by omega)
  simp only [List.getElem?_cons_zero] at c0
  clear hA hX ih hm hrn hbl hst hpl hc hx hci hcnt hb0
  go_enter Try.func145, Try.ntmps145
  go_wp2_with fail
  clear c0
  go_loopw [6] (fun v wr => ∃ (k : Nat) (fl : Bool) (nodes : Int), (k ≤ n ∧ v = .int .i64 (k : Int)) ∧ Hid ((fl = false ∧ ∃ l2 : Nat, plcS xs (m' + 1) i rows l = loopP (fun b2 l2 => loopP (fun d l3 => if freeB (rowN rows b2) (fstN x + d) (dayN x) = false then Plc.fail l3 else if l3 = 0 then Plc.full else plcS xs m' (i + 1) (rows.set b2 (fillT (rowN rows b2) (fstN x + d) ((i : Int) + 1) (dayN x))) (l3 - 1)) (cntN x) 0 l2) (n - k) k l2 ∧ (l2 : Int) ≤ bud ∧ nodes = bud - (l2 : Int)) ∨ (fl = true ∧ plcS xs (m' + 1) i rows l = .full ∧ nodes = bud)) ∧ Below b w0 wr ∧ PlrS b p cp n (.slice (some ⟨ab, ao, none⟩) xs.length c) nodes bud fl wr ∧ PlanR wr (b + 1) E p cp gs rows) (fun v _ => n - (intOf v).toNat)
  case atStart => exact ⟨0, false, _, ⟨Nat.zero_le _, rfl⟩, .inl ⟨rfl, l, HR.out, hl, rfl⟩, HB.out, HST.out, HPL.out⟩
  case round =>
    clear HST HPL HB HR d1
    rename World => wo
    obtain ⟨k, fl, nodes, ⟨hk, rfl⟩, HE, hbr, hst, hpl⟩ := hrel
    have SR := hid hst
    have PR := hid hpl
    have BR := hid hbr
    clear hst hpl hbr
    have q0 : (0 : Int) ≤ (k : Int) := by omega
    have c1 := World.ownsRow.cellAt SR.out 1 (by omega)
    simp only [List.getElem?_cons_zero, List.getElem?_cons_succ] at c1
    by_cases hkl : k < n
    · have q1 : (k : Int) < (n : Int) := by omega
      obtain ⟨r, hr⟩ : ∃ r, rows[k]? = some r := ⟨_, List.getElem?_eq_getElem (by rw [HRN.out]; exact hkl)⟩
      have HRK := hid (show rowN rows k = r by rw [rowN_at (by rw [HRN.out]; exact hkl)]; rw [List.getElem?_eq_getElem (by rw [HRN.out]; exact hkl)] at hr; injection hr)
      have HRR := hid hr
      obtain ⟨g, hg, hc1, -, hrl, hpw, hgw⟩ := PR.out.row hr
      have hgs := PR.out.gsl g (List.mem_of_getElem? hg)
      have hpgl := PR.out.gl
      have hpg : p ≠ g := fun e => PR.out.away g (List.mem_of_getElem? hg) e.symm
      have HG := hid hg
      have HGL := hid (show ∀ W, PlanR W (b + 1) E p cp gs rows → W.ownsRow g 2 1 (gV g) 40 (iVP r) from fun W h => h.inner k g r HG.out HRR.out)
      have HPC := hid (show ∀ W, PlanR W (b + 1) E p cp gs rows → W.cell? ⟨p, k, none⟩ = some (.slice (some ⟨g, 0, none⟩) 40 40) from fun W h => by
        obtain ⟨g', hg', h2, -⟩ := h.row HRR.out
        rw [HG.out] at hg'
        injection hg' with hg'
        subst hg'
        exact h2)
      have hle : n - k = (n - (k + 1)) + 1 := by omega
      have z2 := (BR.out.cell (p := ⟨ab, ao + i * 4 + 2, none⟩) hab).trans HZ2.out
      have HE2 := hid (show (fl = false ∧ ∃ l3 : Nat, plcS xs (m' + 1) i rows l = contP (fun b2 l2 => loopP (fun d l3 => if freeB (rowN rows b2) (fstN x + d) (dayN x) = false then Plc.fail l3 else if l3 = 0 then Plc.full else plcS xs m' (i + 1) (rows.set b2 (fillT (rowN rows b2) (fstN x + d) ((i : Int) + 1) (dayN x))) (l3 - 1)) (cntN x) 0 l2) (n - (k + 1)) (k + 1) (loopP (fun d l3 => if freeB (rowN rows k) (fstN x + d) (dayN x) = false then Plc.fail l3 else if l3 = 0 then Plc.full else plcS xs m' (i + 1) (rows.set k (fillT (rowN rows k) (fstN x + d) ((i : Int) + 1) (dayN x))) (l3 - 1)) (cnt - 0) 0 l3) ∧ (l3 : Int) ≤ bud ∧ nodes = bud - (l3 : Int)) ∨ (fl = true ∧ plcS xs (m' + 1) i rows l = .full ∧ nodes = bud) by
        rcases HE.out with ⟨h1, l2, h2, h3⟩ | h1
        · refine .inl ⟨h1, l2, ?_, h3⟩
          rw [h2, hle, loopP_cont, ← HCN.out]
          rfl
        · exact .inr h1)
      clear hr hg hc1
      go_wp2_with fail
      clear c1 z2
      go_loopw [7] (fun v wr => ∃ (d : Nat) (fl : Bool) (nodes : Int), (d ≤ cnt ∧ v = .int .i64 (x.fFirst + (d : Int))) ∧ Hid ((fl = false ∧ ∃ l3 : Nat, plcS xs (m' + 1) i rows l = contP (fun b2 l2 => loopP (fun d l3 => if freeB (rowN rows b2) (fstN x + d) (dayN x) = false then Plc.fail l3 else if l3 = 0 then Plc.full else plcS xs m' (i + 1) (rows.set b2 (fillT (rowN rows b2) (fstN x + d) ((i : Int) + 1) (dayN x))) (l3 - 1)) (cntN x) 0 l2) (n - (k + 1)) (k + 1) (loopP (fun d l3 => if freeB (rowN rows k) (fstN x + d) (dayN x) = false then Plc.fail l3 else if l3 = 0 then Plc.full else plcS xs m' (i + 1) (rows.set k (fillT (rowN rows k) (fstN x + d) ((i : Int) + 1) (dayN x))) (l3 - 1)) (cnt - d) d l3) ∧ (l3 : Int) ≤ bud ∧ nodes = bud - (l3 : Int)) ∨ (fl = true ∧ plcS xs (m' + 1) i rows l = .full ∧ nodes = bud)) ∧ Below b w0 wr ∧ PlrS b p cp n (.slice (some ⟨ab, ao, none⟩) xs.length c) nodes bud fl wr ∧ PlanR wr (b + 1) E p cp gs rows) (fun v _ => cnt - (intOf v - x.fFirst).toNat)
      case atStart => exact ⟨0, fl, nodes, ⟨Nat.zero_le _, by simp⟩, HE2.out, BR.out, SR.out, PR.out⟩
      case round =>
        clear SR PR BR HE2 HE fl nodes
        rename World => W2
        obtain ⟨d, fl, nodes, ⟨hd, rfl⟩, HI, hbr, hst, hpl⟩ := hrel
        have S2 := hid hst
        have P2 := hid hpl
        have B2 := hid hbr
        clear hst hpl hbr
        have z1 := (B2.out.cell (p := ⟨ab, ao + i * 4 + 1, none⟩) hab).trans HZ1.out
        have z3 := (B2.out.cell (p := ⟨ab, ao + i * 4 + 3, none⟩) hab).trans HZ3.out
        by_cases hdl : d < cnt
        · have hq1 : x.fFirst + (d : Int) + x.fDays - 1 ≤ x.fLast := by have := HC1.out; have := HCN.out; omega
          have hld : cnt - d = (cnt - (d + 1)) + 1 := by omega
          have hfd : fstN x + d ≤ 1000 := by have := HF2.out; omega
          obtain ⟨z, hz⟩ : ∃ z, freeB r (fstN x + d) (dayN x) = z := ⟨_, rfl⟩
          have HZ := hid hz
          clear hz
          go_wp2_with fail
          go_quiet (fail)
          have S3 := hid (show PlrS b p cp n (.slice (some ⟨ab, ao, none⟩) xs.length c) nodes bud fl (W2.drewN nq) from S2.out)
          have P3 := hid (P2.out.drewN nq)
          have B3 := hid (below_drewN' B2.out nq)
          clear z1 z3 S2 P2 B2
          generalize W2.drewN nq = W3 at S3 P3 B3 ⊢
          have c1 := World.ownsRow.cellAt S3.out 1 (by omega)
          simp only [List.getElem?_cons_zero, List.getElem?_cons_succ] at c1
          have c2 := HPC.out _ P3.out
          have z1 := (B3.out.cell (p := ⟨ab, ao + i * 4 + 1, none⟩) hab).trans HZ1.out
          go_wp2_with fail
          have HFC := hid (show ∀ m, Calls Try.prog 178 #[.slice (some ⟨g, 0, none⟩) 40 40, .int .i64 (x.fFirst + (d : Int)), .int .i64 x.fDays] (W3.drewN m) fun e w' => e = .returned (.bool z) ∧ W3.drewN m = w' from fun m => l18Free_gen g r (fstN x + d) (dayN x) _ _ _ (HGL.out _ (P3.out.drewN m)) hfd HD2.out.2 HD2.out.1 (by have := HF1.out; omega) HD1.out z HZ.out)
          go_quiet ((go_at_call 178; with_reducible exact quiet_left (HFC.out _)))
          clear HFC
          have S4 := hid (show PlrS b p cp n (.slice (some ⟨ab, ao, none⟩) xs.length c) nodes bud fl (W3.drewN nq) from S3.out)
          have P4 := hid (P3.out.drewN nq)
          have B4 := hid (below_drewN' B3.out nq)
          clear c1 c2 z1 S3 P3 B3
          generalize W3.drewN nq = W4 at S4 P4 B4 ⊢
          cases z
          · have HEN := hid (show (fl = false ∧ ∃ l3 : Nat, plcS xs (m' + 1) i rows l = contP (fun b2 l2 => loopP (fun d l3 => if freeB (rowN rows b2) (fstN x + d) (dayN x) = false then Plc.fail l3 else if l3 = 0 then Plc.full else plcS xs m' (i + 1) (rows.set b2 (fillT (rowN rows b2) (fstN x + d) ((i : Int) + 1) (dayN x))) (l3 - 1)) (cntN x) 0 l2) (n - (k + 1)) (k + 1) (loopP (fun d l3 => if freeB (rowN rows k) (fstN x + d) (dayN x) = false then Plc.fail l3 else if l3 = 0 then Plc.full else plcS xs m' (i + 1) (rows.set k (fillT (rowN rows k) (fstN x + d) ((i : Int) + 1) (dayN x))) (l3 - 1)) (cnt - (d + 1)) (d + 1) l3) ∧ (l3 : Int) ≤ bud ∧ nodes = bud - (l3 : Int)) ∨ (fl = true ∧ plcS xs (m' + 1) i rows l = .full ∧ nodes = bud) by
              rcases HI.out with ⟨h1, l3, h2, h3⟩ | h1
              · refine .inl ⟨h1, l3, h2.trans (congrArg _ ?_), h3⟩
                rw [hld]
                exact loopP_fail (by show (if freeB (rowN rows k) (fstN x + d) (dayN x) = false then Plc.fail l3 else _) = _; rw [HRK.out, HZ.out, if_pos rfl])
              · exact .inr h1)
            go_wp2_with fail
            go_roundw
            case rel => exact ⟨d + 1, fl, nodes, ⟨by omega, by go_num⟩, HEN.out, B4.out, S4.out, P4.out⟩
            case measure => simp [intOf]; omega
          · obtain ⟨hf40, hfr⟩ := freeB_iff.1 HZ.out
            have HFR := hid hfr
            clear hfr
            have c2 := World.ownsRow.cellAt S4.out 2 (by omega)
            have c3 := World.ownsRow.cellAt S4.out 3 (by omega)
            have c4 := World.ownsRow.cellAt S4.out 4 (by omega)
            have f4 := World.ownsRow.frozenAt S4.out 4
            simp only [List.getElem?_cons_zero, List.getElem?_cons_succ] at c2 c3 c4
            by_cases hnb : nodes = bud
            · have HEN := hid (show plcS xs (m' + 1) i rows l = .full by
                rcases HI.out with ⟨h1, l3, h2, h3, h4⟩ | ⟨-, h1, -⟩
                · refine h2.trans ?_
                  rw [hld, loopP_full (by show (if freeB (rowN rows k) (fstN x + d) (dayN x) = false then Plc.fail l3 else if l3 = 0 then Plc.full else _) = _; rw [HRK.out, HZ.out, if_neg (by simp), if_pos (by omega)])]
                  rfl
                · exact h1)
              have d2 : (nodes == bud) = true := by rw [beq_iff_eq]; exact hnb
              have HNB := hid hnb
              clear hnb
              go_wp2_with fail
              go_quiet (fail)
              have S5 := hid (show PlrS b p cp n (.slice (some ⟨ab, ao, none⟩) xs.length c) nodes bud true ((W4.drewN nq).setCell ⟨b, 4, none⟩ (.bool true)) from PlrS.setFull (w := W4.drewN nq) S4.out)
              have P5 := hid ((P4.out.drewN nq).chg (chg_one (W4.drewN nq) b 4 (.bool true)) (.inl (Nat.le_refl _)))
              have B5 := hid ((below_drewN' B4.out nq).setCell (p := ⟨b, 4, none⟩) (Nat.le_refl _) (.bool true))
              go_wp2_with fail
              go_ret
              refine ⟨B5.out, ?_⟩
              rw [HEN.out]
              refine ⟨rfl, ?_, P5.out⟩
              have h9 := S5.out
              rw [HNB.out] at h9
              exact h9
            · obtain ⟨rfl, l3, hI, hl3, rfl⟩ : fl = false ∧ ∃ l3 : Nat, plcS xs (m' + 1) i rows l = contP (fun b2 l2 => loopP (fun d l3 => if freeB (rowN rows b2) (fstN x + d) (dayN x) = false then Plc.fail l3 else if l3 = 0 then Plc.full else plcS xs m' (i + 1) (rows.set b2 (fillT (rowN rows b2) (fstN x + d) ((i : Int) + 1) (dayN x))) (l3 - 1)) (cntN x) 0 l2) (n - (k + 1)) (k + 1) (loopP (fun d l3 => if freeB (rowN rows k) (fstN x + d) (dayN x) = false then Plc.fail l3 else if l3 = 0 then Plc.full else plcS xs m' (i + 1) (rows.set k (fillT (rowN rows k) (fstN x + d) ((i : Int) + 1) (dayN x))) (l3 - 1)) (cnt - d) d l3) ∧ (l3 : Int) ≤ bud ∧ nodes = bud - (l3 : Int) := by
                rcases HI.out with h1 | ⟨-, -, h1⟩
                · exact h1
                · exact absurd h1 hnb
              have HI2 := hid hI
              have d2 : (bud - (l3 : Int) == bud) = false := by rw [beq_eq_false_iff_ne]; exact hnb
              have hl0 : l3 ≠ 0 := fun e => hnb (by omega)
              have hl1 : 1 ≤ l3 := by omega
              obtain ⟨rows2, hrows2⟩ : ∃ q, q = rows.set k (fillT r (fstN x + d) ((i : Int) + 1) (dayN x)) := ⟨_, rfl⟩
              have HGE := hid (show (fun d l3 => if freeB (rowN rows k) (fstN x + d) (dayN x) = false then Plc.fail l3 else if l3 = 0 then Plc.full else plcS xs m' (i + 1) (rows.set k (fillT (rowN rows k) (fstN x + d) ((i : Int) + 1) (dayN x))) (l3 - 1)) d l3 = plcS xs m' (i + 1) rows2 (l3 - 1) by
                show (if freeB (rowN rows k) (fstN x + d) (dayN x) = false then Plc.fail l3 else if l3 = 0 then Plc.full else plcS xs m' (i + 1) (rows.set k (fillT (rowN rows k) (fstN x + d) ((i : Int) + 1) (dayN x))) (l3 - 1)) = _
                rw [HRK.out, HZ.out, if_neg (by simp), if_neg hl0, ← hrows2])
              have HRW := hid hrows2
              have hcast : (bud - (l3 : Int) + 1) = bud - ((l3 - 1 : Nat) : Int) := by omega
              clear hnb hI hl0 hrows2
              go_wp2_with fail
              go_quiet (fail)
              have S5 := hid (show PlrS b p cp n (.slice (some ⟨ab, ao, none⟩) xs.length c) (bud - (l3 : Int)) bud false (W4.drewN nq) from S4.out)
              have P5 := hid (P4.out.drewN nq)
              have B5 := hid (below_drewN' B4.out nq)
              clear c2 c3 c4 f4 d2 S4 P4 B4
              generalize W4.drewN nq = W5 at S5 P5 B5 ⊢
              have c2 := World.ownsRow.cellAt S5.out 2 (by omega)
              have f2 := World.ownsRow.frozenAt S5.out 2
              have c4 := World.ownsRow.cellAt S5.out 4 (by omega)
              simp only [List.getElem?_cons_zero, List.getElem?_cons_succ] at c2 c4
              have S6 := hid (show PlrS b p cp n (.slice (some ⟨ab, ao, none⟩) xs.length c) (bud - ((l3 - 1 : Nat) : Int)) bud false (W5.setCell ⟨b, 2, none⟩ (.int .i64 (bud - (l3 : Int) + 1))) by rw [← hcast]; exact S5.out.setNodes _)
              have P6 := hid (P5.out.chg (chg_one W5 b 2 (.int .i64 (bud - (l3 : Int) + 1))) (.inl (Nat.le_refl _)))
              have B6 := hid (B5.out.setCell (p := ⟨b, 2, none⟩) (Nat.le_refl _) (.int .i64 (bud - (l3 : Int) + 1)))
              clear hcast
              go_upto_region 16 with fail
              generalize W5.setCell ⟨b, 2, none⟩ (.int .i64 (bud - (l3 : Int) + 1)) = W6 at S6 P6 B6 ⊢
              clear c2 f2 c4 S5 P5 B5
              have c1 := World.ownsRow.cellAt S6.out 1 (by omega)
              simp only [List.getElem?_cons_zero, List.getElem?_cons_succ] at c1
              have c2 := HPC.out _ P6.out
              have z1 := (B6.out.cell (p := ⟨ab, ao + i * 4 + 1, none⟩) hab).trans HZ1.out
              have hbl : b < W6.heap.size := S6.out.lt
              have hpl : p < W6.heap.size := P6.out.lt
              have hal : ab < W6.heap.size := by omega
              have hgl : g < W6.heap.size := (World.ownsRow.lt (HGL.out _ P6.out) g rfl).2
              refine wp_region_held_drew (S := (fun w' => (True ∧ Below b w0 w') ∧ w'.cell? ⟨b, 1, none⟩ = some (.slice (some ⟨p, 0, none⟩) n cp) ∧ w'.cell? ⟨p, k, none⟩ = some (.slice (some ⟨g, 0, none⟩) 40 40) ∧ w'.cell? ⟨ab, ao + i * 4 + 1, none⟩ = some (.int .i64 x.fDays))) (by kernel_rfl) ⟨⟨trivial, B6.out.drew⟩, c1, c2, z1⟩ (fun hHeld => ?_)
              refine wpAnyH_take (i := 0) (oi := ⟨some 85, _, _, _, _, _⟩) (v := ?_) rfl (by kernel_rfl) (by kernel_rfl) (by kernel_rfl) (fun _ _ _ h => h) (Or.inl ⟨by rfl, ?_⟩) (by assumption) ?_
              rotate_left
              · (intro w hSw; (try dsimp only at hSw); go_simp; try with_reducible rfl)
              try simp only [Act.put, List.setIfInBounds_toArray, List.set_cons_zero, List.set_cons_succ]
              refine wpAnyH_take (i := 1) (oi := ⟨some 86, _, _, _, _, _⟩) (v := ?_) rfl (by kernel_rfl) (by kernel_rfl) (by kernel_rfl) (fun _ _ _ h => h) (Or.inl ⟨by rfl, ?_⟩) (by assumption) ?_
              rotate_left
              · (intro w hSw; (try dsimp only at hSw); go_simp; try with_reducible rfl)
              try simp only [Act.put, List.setIfInBounds_toArray, List.set_cons_zero, List.set_cons_succ]
              refine wpAnyH_take (i := 2) (oi := ⟨some 87, _, _, _, _, _⟩) (v := ?_) rfl (by kernel_rfl) (by kernel_rfl) (by kernel_rfl) (fun _ _ _ h => h) (Or.inl ⟨by rfl, ?_⟩) (by assumption) ?_
              rotate_left
              · (intro w hSw; (try dsimp only at hSw); go_simp; try with_reducible rfl)
              try simp only [Act.put, List.setIfInBounds_toArray, List.set_cons_zero, List.set_cons_succ]
              refine wpAnyH_take (i := 3) (oi := ⟨some 88, _, _, _, _, _⟩) (v := ?_) rfl (by kernel_rfl) (by kernel_rfl) (by kernel_rfl) (fun _ _ _ h => h) (Or.inl ⟨by rfl, ?_⟩) (by assumption) ?_
              rotate_left
              · (intro w hSw; (try dsimp only at hSw); go_simp; try with_reducible rfl)
              try simp only [Act.put, List.setIfInBounds_toArray, List.set_cons_zero, List.set_cons_succ]
              refine wpAnyH_take (i := 4) (oi := ⟨some 89, _, _, _, _, _⟩) (v := ?_) rfl (by kernel_rfl) (by kernel_rfl) (by kernel_rfl) (fun _ _ _ h => h) (Or.inl ⟨by rfl, ?_⟩) (by assumption) ?_
              rotate_left
              · (intro w hSw; (try dsimp only at hSw); go_simp; try with_reducible rfl)
              try simp only [Act.put, List.setIfInBounds_toArray, List.set_cons_zero, List.set_cons_succ]
              refine wpAnyH_take (i := 5) (oi := ⟨some 90, _, _, _, _, _⟩) (v := ?_) rfl (by kernel_rfl) (by kernel_rfl) (by kernel_rfl) (fun _ _ _ h => h) (Or.inl ⟨by rfl, ?_⟩) (by assumption) ?_
              rotate_left
              · (intro w hSw; (try dsimp only at hSw); go_simp; try with_reducible rfl)
              try simp only [Act.put, List.setIfInBounds_toArray, List.set_cons_zero, List.set_cons_succ]
              refine wpAnyH_take (i := 6) (oi := ⟨some 91, _, _, _, _, _⟩) (v := ?_) rfl (by kernel_rfl) (by kernel_rfl) (by kernel_rfl) (fun _ _ _ h => h) (Or.inl ⟨by rfl, ?_⟩) (by assumption) ?_
              rotate_left
              · (intro w hSw; (try dsimp only at hSw); go_simp; try with_reducible rfl)
              try simp only [Act.put, List.setIfInBounds_toArray, List.set_cons_zero, List.set_cons_succ]
              refine wpAnyH_take (i := 7) (oi := ⟨some 92, _, _, _, _, _⟩) (v := ?_) rfl (by kernel_rfl) (by kernel_rfl) (by kernel_rfl) (fun _ _ _ h => h) (Or.inl ⟨by rfl, ?_⟩) (by assumption) ?_
              rotate_left
              · (intro w hSw; (try dsimp only at hSw); go_simp; try with_reducible rfl)
              try simp only [Act.put, List.setIfInBounds_toArray, List.set_cons_zero, List.set_cons_succ]
              refine wpAnyH_take (i := 8) (oi := ⟨some 93, _, _, _, _, _⟩) (v := ?_) rfl (by kernel_rfl) (by kernel_rfl) (by kernel_rfl) (fun _ _ _ h => h) (Or.inl ⟨by rfl, ?_⟩) (by assumption) ?_
              rotate_left
              · (intro w hSw; (try dsimp only at hSw); go_simp; try with_reducible rfl)
              try simp only [Act.put, List.setIfInBounds_toArray, List.set_cons_zero, List.set_cons_succ]
              refine wpAnyH_take (i := 9) (oi := ⟨some 94, _, _, _, _, _⟩) (v := ?_) rfl (by kernel_rfl) (by kernel_rfl) (by kernel_rfl) (fun _ _ _ h => h) (Or.inl ⟨by rfl, ?_⟩) (by assumption) ?_
              rotate_left
              · (intro w hSw; (try dsimp only at hSw); go_simp; try with_reducible rfl)
              try simp only [Act.put, List.setIfInBounds_toArray, List.set_cons_zero, List.set_cons_succ]
              refine wpAnyH_take (i := 10) (oi := ⟨some 95, _, _, _, _, _⟩) (v := ?_) rfl (by kernel_rfl) (by kernel_rfl) (by kernel_rfl) (fun _ _ _ h => h) (Or.inl ⟨by rfl, ?_⟩) (by assumption) ?_
              rotate_left
              · (intro w hSw; (try dsimp only at hSw); go_simp; try with_reducible rfl)
              try simp only [Act.put, List.setIfInBounds_toArray, List.set_cons_zero, List.set_cons_succ]
              refine wpAnyH_take (i := 11) (oi := ⟨some 96, _, _, _, _, _⟩) (v := ?_) rfl (by kernel_rfl) (by kernel_rfl) (by kernel_rfl) (fun _ _ _ h => h) (Or.inl ⟨by rfl, ?_⟩) (by assumption) ?_
              rotate_left
              · (intro w hSw; (try dsimp only at hSw); go_simp; try with_reducible rfl)
              try simp only [Act.put, List.setIfInBounds_toArray, List.set_cons_zero, List.set_cons_succ]
              refine wpAnyH_take (i := 12) (oi := ⟨some 97, _, _, _, _, _⟩) (v := ?_) rfl (by kernel_rfl) (by kernel_rfl) (by kernel_rfl) (fun _ _ _ h => h) (Or.inl ⟨by rfl, ?_⟩) (by assumption) ?_
              rotate_left
              · (intro w hSw; (try dsimp only at hSw); go_simp; try with_reducible rfl)
              try simp only [Act.put, List.setIfInBounds_toArray, List.set_cons_zero, List.set_cons_succ]
              refine wpAnyH_take (i := 13) (oi := ⟨some 98, _, _, _, _, _⟩) (v := ?_) rfl (by kernel_rfl) (by kernel_rfl) (by kernel_rfl) (fun _ _ _ h => h) (Or.inl ⟨by rfl, ?_⟩) (by assumption) ?_
              rotate_left
              · (intro w hSw; (try dsimp only at hSw); go_simp; try with_reducible rfl)
              try simp only [Act.put, List.setIfInBounds_toArray, List.set_cons_zero, List.set_cons_succ]
              refine wpAnyH_ready (rs := [14]) (by kernel_rfl) (by simp) ?_
              refine AllReadyH.cons (o := ⟨some 99, _, _, _, _, _⟩) rfl (fun K hK => ?_) AllReadyH.nil
              go_simp
              go_at_call 179; have h9 := l18Put_gen g r (fstN x + d) (dayN x) (x.fFirst + (d : Int)) x.fDays ((i : Int) + 1) W6.drew (HGL.out _ P6.out.drew) hf40 (by have := HF1.out; omega) HD1.out; refine h9.mono ?_; clear h9; rintro e w6 ⟨rfl, ho6, hq6⟩; have CK := chg_cell hq6
              (try go_wp2_with fail)
              refine hK.out _ _ (⟨⟨trivial, hHeld.1.2.trans ((hq6.below (Nat.le_of_lt hgl)).mono (by omega))⟩, CK _ _ _ hbl (by omega) hHeld.2.1, CK _ _ _ hpl hpg hHeld.2.2.1, CK _ _ _ hal (by omega) hHeld.2.2.2⟩) (fun hHeld => ?_)
              clear hK K
              try simp only [Act.put, List.setIfInBounds_toArray, List.set_cons_zero, List.set_cons_succ]
              refine wpAnyH_done (by kernel_rfl) ?_ _
              have P7 := hid (show PlanR w6 (b + 1) E p cp gs rows2 by rw [HRW.out]; exact P6.out.drew.set HG.out hq6 ho6)
              have S7 := hid (PlrS.side (w := W6.drew) S6.out hq6 (by omega))
              have B7 := hid hHeld.1.2
              clear ho6 hq6 hHeld CK c1 c2 z1 hbl hpl hal hgl S6 P6 B6
              go_wp2_with fail
              refine (HIH.out (i + 1) rows2 (l3 - 1) w6 HM2.out (by rw [HRW.out, List.length_set]; exact HRN.out) (by omega) B7.out S7.out P7.out).mono ?_
              rintro e W8 ⟨hb8, hres⟩
              have B8 := hid hb8
              clear hb8 S7 P7 B7
              cases hq : plcS xs m' (i + 1) rows2 (l3 - 1) with
              | solved p2 =>
                rw [hq] at hres
                obtain ⟨rfl, nodes8, full8, hs8, hp8⟩ := hres
                have S8 := hid hs8
                have P8 := hid hp8
                have HEN := hid (show plcS xs (m' + 1) i rows l = .solved p2 by
                  refine HI2.out.trans ?_
                  rw [hld, loopP_solved (HGE.out.trans hq)]
                  rfl)
                clear hq hs8 hp8
                go_wp2_with fail
                go_ret
                refine ⟨B8.out, ?_⟩
                rw [HEN.out]
                exact ⟨rfl, _, _, S8.out, P8.out⟩
              | full =>
                rw [hq] at hres
                obtain ⟨rfl, hs8, hp8⟩ := hres
                have HEN := hid (show plcS xs (m' + 1) i rows l = .full by
                  refine HI2.out.trans ?_
                  rw [hld, loopP_full (HGE.out.trans hq)]
                  rfl)
                have S8 := hid hs8
                have P8 := hid hp8
                have HO8 := hid (show W8.drew.ownsRow g 2 1 (gV g) 40 (iVP (fillT r (fstN x + d) ((i : Int) + 1) (dayN x))) from hp8.drew.inner k g _ HG.out (by rw [HRW.out, List.getElem?_set_self (by rw [HRN.out]; exact hkl)]))
                have c1 := World.ownsRow.cellAt S8.out 1 (by omega)
                simp only [List.getElem?_cons_zero, List.getElem?_cons_succ] at c1
                have c2 : W8.cell? ⟨p, k, none⟩ = some (.slice (some ⟨g, 0, none⟩) 40 40) := by
                  obtain ⟨g', hg', h2, -⟩ := hp8.row (i := k) (r := fillT r (fstN x + d) ((i : Int) + 1) (dayN x)) (by rw [HRW.out, List.getElem?_set_self (by rw [HRN.out]; exact hkl)])
                  rw [HG.out] at hg'
                  injection hg' with hg'
                  subst hg'
                  exact h2
                have z1 := (B8.out.cell (p := ⟨ab, ao + i * 4 + 1, none⟩) hab).trans HZ1.out
                have hbl : b < W8.heap.size := S8.out.lt
                have hpl : p < W8.heap.size := P8.out.lt
                have hal : ab < W8.heap.size := by omega
                have hgl : g < W8.heap.size := (World.ownsRow.lt HO8.out g rfl).2
                clear hq hs8 hp8
                go_wp2_with fail
                refine wp_region_held_drew (S := (fun w' => (True ∧ Below b w0 w') ∧ w'.cell? ⟨b, 1, none⟩ = some (.slice (some ⟨p, 0, none⟩) n cp) ∧ w'.cell? ⟨p, k, none⟩ = some (.slice (some ⟨g, 0, none⟩) 40 40) ∧ w'.cell? ⟨ab, ao + i * 4 + 1, none⟩ = some (.int .i64 x.fDays))) (by kernel_rfl) ⟨⟨trivial, B8.out.drew⟩, c1, c2, z1⟩ (fun hHeld => ?_)
                refine wpAnyH_take (i := 0) (oi := ⟨some 104, _, _, _, _, _⟩) (v := ?_) rfl (by kernel_rfl) (by kernel_rfl) (by kernel_rfl) (fun _ _ _ h => h) (Or.inl ⟨by rfl, ?_⟩) (by assumption) ?_
                rotate_left
                · (intro w hSw; (try dsimp only at hSw); go_simp; try with_reducible rfl)
                try simp only [Act.put, List.setIfInBounds_toArray, List.set_cons_zero, List.set_cons_succ]
                refine wpAnyH_take (i := 1) (oi := ⟨some 105, _, _, _, _, _⟩) (v := ?_) rfl (by kernel_rfl) (by kernel_rfl) (by kernel_rfl) (fun _ _ _ h => h) (Or.inl ⟨by rfl, ?_⟩) (by assumption) ?_
                rotate_left
                · (intro w hSw; (try dsimp only at hSw); go_simp; try with_reducible rfl)
                try simp only [Act.put, List.setIfInBounds_toArray, List.set_cons_zero, List.set_cons_succ]
                refine wpAnyH_take (i := 2) (oi := ⟨some 106, _, _, _, _, _⟩) (v := ?_) rfl (by kernel_rfl) (by kernel_rfl) (by kernel_rfl) (fun _ _ _ h => h) (Or.inl ⟨by rfl, ?_⟩) (by assumption) ?_
                rotate_left
                · (intro w hSw; (try dsimp only at hSw); go_simp; try with_reducible rfl)
                try simp only [Act.put, List.setIfInBounds_toArray, List.set_cons_zero, List.set_cons_succ]
                refine wpAnyH_take (i := 3) (oi := ⟨some 107, _, _, _, _, _⟩) (v := ?_) rfl (by kernel_rfl) (by kernel_rfl) (by kernel_rfl) (fun _ _ _ h => h) (Or.inl ⟨by rfl, ?_⟩) (by assumption) ?_
                rotate_left
                · (intro w hSw; (try dsimp only at hSw); go_simp; try with_reducible rfl)
                try simp only [Act.put, List.setIfInBounds_toArray, List.set_cons_zero, List.set_cons_succ]
                refine wpAnyH_take (i := 4) (oi := ⟨some 108, _, _, _, _, _⟩) (v := ?_) rfl (by kernel_rfl) (by kernel_rfl) (by kernel_rfl) (fun _ _ _ h => h) (Or.inl ⟨by rfl, ?_⟩) (by assumption) ?_
                rotate_left
                · (intro w hSw; (try dsimp only at hSw); go_simp; try with_reducible rfl)
                try simp only [Act.put, List.setIfInBounds_toArray, List.set_cons_zero, List.set_cons_succ]
                refine wpAnyH_take (i := 5) (oi := ⟨some 109, _, _, _, _, _⟩) (v := ?_) rfl (by kernel_rfl) (by kernel_rfl) (by kernel_rfl) (fun _ _ _ h => h) (Or.inl ⟨by rfl, ?_⟩) (by assumption) ?_
                rotate_left
                · (intro w hSw; (try dsimp only at hSw); go_simp; try with_reducible rfl)
                try simp only [Act.put, List.setIfInBounds_toArray, List.set_cons_zero, List.set_cons_succ]
                refine wpAnyH_take (i := 6) (oi := ⟨some 110, _, _, _, _, _⟩) (v := ?_) rfl (by kernel_rfl) (by kernel_rfl) (by kernel_rfl) (fun _ _ _ h => h) (Or.inl ⟨by rfl, ?_⟩) (by assumption) ?_
                rotate_left
                · (intro w hSw; (try dsimp only at hSw); go_simp; try with_reducible rfl)
                try simp only [Act.put, List.setIfInBounds_toArray, List.set_cons_zero, List.set_cons_succ]
                refine wpAnyH_take (i := 7) (oi := ⟨some 111, _, _, _, _, _⟩) (v := ?_) rfl (by kernel_rfl) (by kernel_rfl) (by kernel_rfl) (fun _ _ _ h => h) (Or.inl ⟨by rfl, ?_⟩) (by assumption) ?_
                rotate_left
                · (intro w hSw; (try dsimp only at hSw); go_simp; try with_reducible rfl)
                try simp only [Act.put, List.setIfInBounds_toArray, List.set_cons_zero, List.set_cons_succ]
                refine wpAnyH_take (i := 8) (oi := ⟨some 112, _, _, _, _, _⟩) (v := ?_) rfl (by kernel_rfl) (by kernel_rfl) (by kernel_rfl) (fun _ _ _ h => h) (Or.inl ⟨by rfl, ?_⟩) (by assumption) ?_
                rotate_left
                · (intro w hSw; (try dsimp only at hSw); go_simp; try with_reducible rfl)
                try simp only [Act.put, List.setIfInBounds_toArray, List.set_cons_zero, List.set_cons_succ]
                refine wpAnyH_take (i := 9) (oi := ⟨some 113, _, _, _, _, _⟩) (v := ?_) rfl (by kernel_rfl) (by kernel_rfl) (by kernel_rfl) (fun _ _ _ h => h) (Or.inl ⟨by rfl, ?_⟩) (by assumption) ?_
                rotate_left
                · (intro w hSw; (try dsimp only at hSw); go_simp; try with_reducible rfl)
                try simp only [Act.put, List.setIfInBounds_toArray, List.set_cons_zero, List.set_cons_succ]
                refine wpAnyH_take (i := 10) (oi := ⟨some 114, _, _, _, _, _⟩) (v := ?_) rfl (by kernel_rfl) (by kernel_rfl) (by kernel_rfl) (fun _ _ _ h => h) (Or.inl ⟨by rfl, ?_⟩) (by assumption) ?_
                rotate_left
                · (intro w hSw; (try dsimp only at hSw); go_simp; try with_reducible rfl)
                try simp only [Act.put, List.setIfInBounds_toArray, List.set_cons_zero, List.set_cons_succ]
                refine wpAnyH_take (i := 11) (oi := ⟨some 115, _, _, _, _, _⟩) (v := ?_) rfl (by kernel_rfl) (by kernel_rfl) (by kernel_rfl) (fun _ _ _ h => h) (Or.inl ⟨by rfl, ?_⟩) (by assumption) ?_
                rotate_left
                · (intro w hSw; (try dsimp only at hSw); go_simp; try with_reducible rfl)
                try simp only [Act.put, List.setIfInBounds_toArray, List.set_cons_zero, List.set_cons_succ]
                refine wpAnyH_ready (rs := [12]) (by kernel_rfl) (by simp) ?_
                refine AllReadyH.cons (o := ⟨some 116, _, _, _, _, _⟩) rfl (fun K hK => ?_) AllReadyH.nil
                go_simp
                go_at_call 179; have h9 := l18Put_gen g _ (fstN x + d) (dayN x) (x.fFirst + (d : Int)) x.fDays 0 W8.drew (HO8.out) hf40 (by have := HF1.out; omega) HD1.out; refine h9.mono ?_; clear h9; rintro e w6 ⟨rfl, ho6, hq6⟩; have CK := chg_cell hq6
                (try go_wp2_with fail)
                refine hK.out _ _ (⟨⟨trivial, hHeld.1.2.trans ((hq6.below (Nat.le_of_lt hgl)).mono (by omega))⟩, CK _ _ _ hbl (by omega) hHeld.2.1, CK _ _ _ hpl hpg hHeld.2.2.1, CK _ _ _ hal (by omega) hHeld.2.2.2⟩) (fun hHeld => ?_)
                clear hK K
                try simp only [Act.put, List.setIfInBounds_toArray, List.set_cons_zero, List.set_cons_succ]
                refine wpAnyH_done (by kernel_rfl) ?_ _
                rw [fill_back (by omega) HFR.out] at ho6
                have P9 := hid (show PlanR w6 (b + 1) E p cp gs rows by
                  have h9 := P8.out.drew.set HG.out hq6 ho6
                  rw [HRW.out, rows_back HRR.out] at h9
                  exact h9)
                have S9 := hid (PlrS.side (w := W8.drew) S8.out hq6 (by omega))
                have B9 := hid hHeld.1.2
                clear ho6 hq6 hHeld CK c1 c2 z1 hbl hpl hal hgl S8 P8 B8 HO8
                go_wp2_with fail
                go_roundw
                case rel => exact ⟨d + 1, true, bud, ⟨by omega, by go_num⟩, .inr ⟨rfl, HEN.out, rfl⟩, B9.out, S9.out, P9.out⟩
                case measure => simp [intOf]; omega
              | fail l4 =>
                rw [hq] at hres
                obtain ⟨rfl, hl4, hs8, hp8⟩ := hres
                have HEN := hid (show plcS xs (m' + 1) i rows l = contP (fun b2 l2 => loopP (fun d l3 => if freeB (rowN rows b2) (fstN x + d) (dayN x) = false then Plc.fail l3 else if l3 = 0 then Plc.full else plcS xs m' (i + 1) (rows.set b2 (fillT (rowN rows b2) (fstN x + d) ((i : Int) + 1) (dayN x))) (l3 - 1)) (cntN x) 0 l2) (n - (k + 1)) (k + 1) (loopP (fun d l3 => if freeB (rowN rows k) (fstN x + d) (dayN x) = false then Plc.fail l3 else if l3 = 0 then Plc.full else plcS xs m' (i + 1) (rows.set k (fillT (rowN rows k) (fstN x + d) ((i : Int) + 1) (dayN x))) (l3 - 1)) (cnt - (d + 1)) (d + 1) l4) by
                  refine HI2.out.trans ?_
                  rw [hld, loopP_fail (HGE.out.trans hq)])
                have S8 := hid hs8
                have P8 := hid hp8
                have HO8 := hid (show W8.drew.ownsRow g 2 1 (gV g) 40 (iVP (fillT r (fstN x + d) ((i : Int) + 1) (dayN x))) from hp8.drew.inner k g _ HG.out (by rw [HRW.out, List.getElem?_set_self (by rw [HRN.out]; exact hkl)]))
                have c1 := World.ownsRow.cellAt S8.out 1 (by omega)
                simp only [List.getElem?_cons_zero, List.getElem?_cons_succ] at c1
                have c2 : W8.cell? ⟨p, k, none⟩ = some (.slice (some ⟨g, 0, none⟩) 40 40) := by
                  obtain ⟨g', hg', h2, -⟩ := hp8.row (i := k) (r := fillT r (fstN x + d) ((i : Int) + 1) (dayN x)) (by rw [HRW.out, List.getElem?_set_self (by rw [HRN.out]; exact hkl)])
                  rw [HG.out] at hg'
                  injection hg' with hg'
                  subst hg'
                  exact h2
                have z1 := (B8.out.cell (p := ⟨ab, ao + i * 4 + 1, none⟩) hab).trans HZ1.out
                have hbl : b < W8.heap.size := S8.out.lt
                have hpl : p < W8.heap.size := P8.out.lt
                have hal : ab < W8.heap.size := by omega
                have hgl : g < W8.heap.size := (World.ownsRow.lt HO8.out g rfl).2
                clear hq hs8 hp8
                go_wp2_with fail
                refine wp_region_held_drew (S := (fun w' => (True ∧ Below b w0 w') ∧ w'.cell? ⟨b, 1, none⟩ = some (.slice (some ⟨p, 0, none⟩) n cp) ∧ w'.cell? ⟨p, k, none⟩ = some (.slice (some ⟨g, 0, none⟩) 40 40) ∧ w'.cell? ⟨ab, ao + i * 4 + 1, none⟩ = some (.int .i64 x.fDays))) (by kernel_rfl) ⟨⟨trivial, B8.out.drew⟩, c1, c2, z1⟩ (fun hHeld => ?_)
                refine wpAnyH_take (i := 0) (oi := ⟨some 104, _, _, _, _, _⟩) (v := ?_) rfl (by kernel_rfl) (by kernel_rfl) (by kernel_rfl) (fun _ _ _ h => h) (Or.inl ⟨by rfl, ?_⟩) (by assumption) ?_
                rotate_left
                · (intro w hSw; (try dsimp only at hSw); go_simp; try with_reducible rfl)
                try simp only [Act.put, List.setIfInBounds_toArray, List.set_cons_zero, List.set_cons_succ]
                refine wpAnyH_take (i := 1) (oi := ⟨some 105, _, _, _, _, _⟩) (v := ?_) rfl (by kernel_rfl) (by kernel_rfl) (by kernel_rfl) (fun _ _ _ h => h) (Or.inl ⟨by rfl, ?_⟩) (by assumption) ?_
                rotate_left
                · (intro w hSw; (try dsimp only at hSw); go_simp; try with_reducible rfl)
                try simp only [Act.put, List.setIfInBounds_toArray, List.set_cons_zero, List.set_cons_succ]
                refine wpAnyH_take (i := 2) (oi := ⟨some 106, _, _, _, _, _⟩) (v := ?_) rfl (by kernel_rfl) (by kernel_rfl) (by kernel_rfl) (fun _ _ _ h => h) (Or.inl ⟨by rfl, ?_⟩) (by assumption) ?_
                rotate_left
                · (intro w hSw; (try dsimp only at hSw); go_simp; try with_reducible rfl)
                try simp only [Act.put, List.setIfInBounds_toArray, List.set_cons_zero, List.set_cons_succ]
                refine wpAnyH_take (i := 3) (oi := ⟨some 107, _, _, _, _, _⟩) (v := ?_) rfl (by kernel_rfl) (by kernel_rfl) (by kernel_rfl) (fun _ _ _ h => h) (Or.inl ⟨by rfl, ?_⟩) (by assumption) ?_
                rotate_left
                · (intro w hSw; (try dsimp only at hSw); go_simp; try with_reducible rfl)
                try simp only [Act.put, List.setIfInBounds_toArray, List.set_cons_zero, List.set_cons_succ]
                refine wpAnyH_take (i := 4) (oi := ⟨some 108, _, _, _, _, _⟩) (v := ?_) rfl (by kernel_rfl) (by kernel_rfl) (by kernel_rfl) (fun _ _ _ h => h) (Or.inl ⟨by rfl, ?_⟩) (by assumption) ?_
                rotate_left
                · (intro w hSw; (try dsimp only at hSw); go_simp; try with_reducible rfl)
                try simp only [Act.put, List.setIfInBounds_toArray, List.set_cons_zero, List.set_cons_succ]
                refine wpAnyH_take (i := 5) (oi := ⟨some 109, _, _, _, _, _⟩) (v := ?_) rfl (by kernel_rfl) (by kernel_rfl) (by kernel_rfl) (fun _ _ _ h => h) (Or.inl ⟨by rfl, ?_⟩) (by assumption) ?_
                rotate_left
                · (intro w hSw; (try dsimp only at hSw); go_simp; try with_reducible rfl)
                try simp only [Act.put, List.setIfInBounds_toArray, List.set_cons_zero, List.set_cons_succ]
                refine wpAnyH_take (i := 6) (oi := ⟨some 110, _, _, _, _, _⟩) (v := ?_) rfl (by kernel_rfl) (by kernel_rfl) (by kernel_rfl) (fun _ _ _ h => h) (Or.inl ⟨by rfl, ?_⟩) (by assumption) ?_
                rotate_left
                · (intro w hSw; (try dsimp only at hSw); go_simp; try with_reducible rfl)
                try simp only [Act.put, List.setIfInBounds_toArray, List.set_cons_zero, List.set_cons_succ]
                refine wpAnyH_take (i := 7) (oi := ⟨some 111, _, _, _, _, _⟩) (v := ?_) rfl (by kernel_rfl) (by kernel_rfl) (by kernel_rfl) (fun _ _ _ h => h) (Or.inl ⟨by rfl, ?_⟩) (by assumption) ?_
                rotate_left
                · (intro w hSw; (try dsimp only at hSw); go_simp; try with_reducible rfl)
                try simp only [Act.put, List.setIfInBounds_toArray, List.set_cons_zero, List.set_cons_succ]
                refine wpAnyH_take (i := 8) (oi := ⟨some 112, _, _, _, _, _⟩) (v := ?_) rfl (by kernel_rfl) (by kernel_rfl) (by kernel_rfl) (fun _ _ _ h => h) (Or.inl ⟨by rfl, ?_⟩) (by assumption) ?_
                rotate_left
                · (intro w hSw; (try dsimp only at hSw); go_simp; try with_reducible rfl)
                try simp only [Act.put, List.setIfInBounds_toArray, List.set_cons_zero, List.set_cons_succ]
                refine wpAnyH_take (i := 9) (oi := ⟨some 113, _, _, _, _, _⟩) (v := ?_) rfl (by kernel_rfl) (by kernel_rfl) (by kernel_rfl) (fun _ _ _ h => h) (Or.inl ⟨by rfl, ?_⟩) (by assumption) ?_
                rotate_left
                · (intro w hSw; (try dsimp only at hSw); go_simp; try with_reducible rfl)
                try simp only [Act.put, List.setIfInBounds_toArray, List.set_cons_zero, List.set_cons_succ]
                refine wpAnyH_take (i := 10) (oi := ⟨some 114, _, _, _, _, _⟩) (v := ?_) rfl (by kernel_rfl) (by kernel_rfl) (by kernel_rfl) (fun _ _ _ h => h) (Or.inl ⟨by rfl, ?_⟩) (by assumption) ?_
                rotate_left
                · (intro w hSw; (try dsimp only at hSw); go_simp; try with_reducible rfl)
                try simp only [Act.put, List.setIfInBounds_toArray, List.set_cons_zero, List.set_cons_succ]
                refine wpAnyH_take (i := 11) (oi := ⟨some 115, _, _, _, _, _⟩) (v := ?_) rfl (by kernel_rfl) (by kernel_rfl) (by kernel_rfl) (fun _ _ _ h => h) (Or.inl ⟨by rfl, ?_⟩) (by assumption) ?_
                rotate_left
                · (intro w hSw; (try dsimp only at hSw); go_simp; try with_reducible rfl)
                try simp only [Act.put, List.setIfInBounds_toArray, List.set_cons_zero, List.set_cons_succ]
                refine wpAnyH_ready (rs := [12]) (by kernel_rfl) (by simp) ?_
                refine AllReadyH.cons (o := ⟨some 116, _, _, _, _, _⟩) rfl (fun K hK => ?_) AllReadyH.nil
                go_simp
                go_at_call 179; have h9 := l18Put_gen g _ (fstN x + d) (dayN x) (x.fFirst + (d : Int)) x.fDays 0 W8.drew (HO8.out) hf40 (by have := HF1.out; omega) HD1.out; refine h9.mono ?_; clear h9; rintro e w6 ⟨rfl, ho6, hq6⟩; have CK := chg_cell hq6
                (try go_wp2_with fail)
                refine hK.out _ _ (⟨⟨trivial, hHeld.1.2.trans ((hq6.below (Nat.le_of_lt hgl)).mono (by omega))⟩, CK _ _ _ hbl (by omega) hHeld.2.1, CK _ _ _ hpl hpg hHeld.2.2.1, CK _ _ _ hal (by omega) hHeld.2.2.2⟩) (fun hHeld => ?_)
                clear hK K
                try simp only [Act.put, List.setIfInBounds_toArray, List.set_cons_zero, List.set_cons_succ]
                refine wpAnyH_done (by kernel_rfl) ?_ _
                rw [fill_back (by omega) HFR.out] at ho6
                have P9 := hid (show PlanR w6 (b + 1) E p cp gs rows by
                  have h9 := P8.out.drew.set HG.out hq6 ho6
                  rw [HRW.out, rows_back HRR.out] at h9
                  exact h9)
                have S9 := hid (PlrS.side (w := W8.drew) S8.out hq6 (by omega))
                have B9 := hid hHeld.1.2
                clear ho6 hq6 hHeld CK c1 c2 z1 hbl hpl hal hgl S8 P8 B8 HO8
                go_wp2_with fail
                go_roundw
                case rel => exact ⟨d + 1, false, (bud - (l4 : Int)), ⟨by omega, by go_num⟩, .inl ⟨rfl, l4, HEN.out, hl4, rfl⟩, B9.out, S9.out, P9.out⟩
                case measure => simp [intOf]; omega
        · have hq1 : ¬ x.fFirst + (d : Int) + x.fDays - 1 ≤ x.fLast := by have := HC1.out; have := HCN.out; omega
          have HEN := hid (show (fl = false ∧ ∃ l2 : Nat, plcS xs (m' + 1) i rows l = loopP (fun b2 l2 => loopP (fun d l3 => if freeB (rowN rows b2) (fstN x + d) (dayN x) = false then Plc.fail l3 else if l3 = 0 then Plc.full else plcS xs m' (i + 1) (rows.set b2 (fillT (rowN rows b2) (fstN x + d) ((i : Int) + 1) (dayN x))) (l3 - 1)) (cntN x) 0 l2) (n - (k + 1)) (k + 1) l2 ∧ (l2 : Int) ≤ bud ∧ nodes = bud - (l2 : Int)) ∨ (fl = true ∧ plcS xs (m' + 1) i rows l = .full ∧ nodes = bud) by
            rcases HI.out with ⟨h1, l3, h2, h3⟩ | h1
            · refine .inl ⟨h1, l3, h2.trans ?_, h3⟩
              rw [show cnt - d = 0 by omega]
              rfl
            · exact .inr h1)
          go_wp2_with fail
          go_quiet (fail)
          go_wp2_with fail
          go_roundw
          case rel => exact ⟨k + 1, fl, nodes, ⟨by omega, by go_num⟩, HEN.out, below_drewN' B2.out _, S2.out, P2.out.drewN _⟩
          case measure => simp [intOf]; omega
    · have hk2 : k = n := by omega
      have q1 : ¬ (k : Int) < (n : Int) := by omega
      have HEN := hid (show (fl = false ∧ ∃ l2 : Nat, plcS xs (m' + 1) i rows l = .fail l2 ∧ (l2 : Int) ≤ bud ∧ nodes = bud - (l2 : Int)) ∨ (fl = true ∧ plcS xs (m' + 1) i rows l = .full ∧ nodes = bud) by
        rcases HE.out with ⟨h1, l2, h2, h3⟩ | h1
        · refine .inl ⟨h1, l2, h2.trans ?_, h3⟩
          rw [show n - k = 0 by omega]
          rfl
        · exact .inr h1)
      clear hk2
      go_wp2_with fail
      go_ret
      refine ⟨BR.out, ?_⟩
      rcases HEN.out with ⟨rfl, l2, h1, h2, rfl⟩ | ⟨rfl, h1, rfl⟩
      · rw [h1]
        exact ⟨rfl, h2, SR.out, PR.out⟩
      · rw [h1]
        exact ⟨rfl, SR.out, PR.out⟩
/-- the reference's search -/
theorem plrSearch (xs : List DWork) (A : Option Addr) (c b p cp n E : Nat) (gs : List Nat) (w0 : World) (hA : RowsAt w0 4 A (xs.map DWork.cells)) (hb0 : b = w0.heap.size) (hX : ∀ x ∈ xs, workD x = true) (hn : xs.length ≤ 8) (hn6 : n ≤ 6) (bud : Int) (hbud : bud ≤ 20000) : ∀ (m : Nat), ∀ (i : Nat) (rows : List (List Int)) (l : Nat) (w : World), i + m = xs.length → rows.length = n → (l : Int) ≤ bud → Below b w0 w → PlrS b p cp n (.slice A xs.length c) (bud - (l : Int)) bud false w → PlanR w (b + 1) E p cp gs rows →
    Calls Try.prog 145 #[.pointer (some ⟨b, 0, none⟩), .int .i64 (i : Int)] w (LPostP b p cp n E gs w0 (.slice A xs.length c) bud (plcS xs m i rows l) rows)
  | 0 => plr_leaf xs A c b p cp n E gs w0 hA hb0 hX hn hn6 bud hbud
  | m + 1 => plr_step xs A c b p cp n E gs w0 hA hb0 hX hn hn6 bud hbud m (plrSearch xs A c b p cp n E gs w0 hA hb0 hX hn hn6 bud hbud m)
end Go.Proofs.Ytdbjbkdcmhekfaa
