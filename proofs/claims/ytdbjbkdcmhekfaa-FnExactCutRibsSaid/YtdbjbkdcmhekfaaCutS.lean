/- CutRibs: the reference's search. -/
import Derived.Test.YtdbjbkdcmhekfaaCutU
import Derived.Deep.DeepCutAuto
import Derived.Deep.QuietTactic
namespace Go.Proofs.Ytdbjbkdcmhekfaa
open Go.RowKit
set_option linter.unusedVariables false

/-- a call's answer -/
def LPost (b : Nat) (w0 : World) (LA : Value) (strip saw mo bud : Int) (r : Cut) (us : List Int) (t : List Nat) (e : Ending) (w' : World) : Prop :=
  Below b w0 w' ∧ match r with
  | .full => e = .returned (.bool false) ∧ RutAt b LA strip saw mo us t bud bud true w'
  | .solved t2 => e = .returned (.bool true) ∧ ∃ us2 nodes full, RutAt b LA strip saw mo us2 t2 nodes bud full w'
  | .fail l => e = .returned (.bool false) ∧ (l : Int) ≤ bud ∧ RutAt b LA strip saw mo us t (bud - (l : Int)) bud false w'

set_option maxHeartbeats 3200000 in
set_option maxRecDepth 100000 in
theorem rut_step (xs : List DRib) (A : Option Addr) (c b mo : Nat) (w0 : World) (strip saw : Int) (hA : RowsAt w0 3 A (xs.map DRib.cells)) (hb0 : b = w0.heap.size) (hs0 : 1 ≤ strip ∧ strip ≤ 100000) (hs1 : 0 ≤ saw ∧ saw ≤ 100) (hP : ∀ x ∈ xs, 1 ≤ x.fLength ∧ x.fLength ≤ 10000) (hn : xs.length ≤ 8) (hmo : mo ≤ 8) (bud : Int) (hbud : bud ≤ 20000) (m : Nat) (ih : ∀ m', m = m' + 1 → ∀ (fr : List Int) (t : List Nat) (l : Nat) (w : World), t.length + m' = xs.length → FrS strip fr → fr.length ≤ mo → (l : Int) ≤ bud → Below b w0 w → RutAt b (.slice A xs.length c) strip saw (mo : Int) (usOf strip fr mo) t (bud - (l : Int)) bud false w →
    Calls Try.prog 80 #[.pointer (some ⟨b, 0, none⟩), .int .i64 (fr.length : Int)] w (LPost b w0 (.slice A xs.length c) strip saw (mo : Int) bud (cutS (lens xs) strip saw mo m' fr t l) (usOf strip fr mo) t)) : ∀ (fr : List Int) (t : List Nat) (l : Nat) (w : World), t.length + m = xs.length → FrS strip fr → fr.length ≤ mo → (l : Int) ≤ bud → Below b w0 w → RutAt b (.slice A xs.length c) strip saw (mo : Int) (usOf strip fr mo) t (bud - (l : Int)) bud false w →
    Calls Try.prog 80 #[.pointer (some ⟨b, 0, none⟩), .int .i64 (fr.length : Int)] w (LPost b w0 (.slice A xs.length c) strip saw (mo : Int) bud (cutS (lens xs) strip saw mo m fr t l) (usOf strip fr mo) t) := by
  intro fr t l w hm hF hfl hl hbl hst
  have HA := hid hA
  have HB0 := hid hb0
  have HPP := hid hP
  have HIH := hid ih
  have HM := hid hm
  have HF := hid hF
  have HB := hid hbl
  have HST := hid hst
  have hbw := hst.lt
  clear hA hb0 hP ih hm hF hbl
  obtain ⟨Au, cu, At, ct, ho, hf, ht, hap⟩ := hst
  have HO := hid ho
  clear ho hf ht hap
  have c0 := HO.out.cellAt 0 (by omega)
  have c1 := HO.out.cellAt 1 (by omega)
  have c2 := HO.out.cellAt 2 (by omega)
  have c3 := HO.out.cellAt 3 (by omega)
  have c4 := HO.out.cellAt 4 (by omega)
  have c5 := HO.out.cellAt 5 (by omega)
  have c6 := HO.out.cellAt 6 (by omega)
  have c7 := HO.out.cellAt 7 (by omega)
  have c8 := HO.out.cellAt 8 (by omega)
  have f0 := HO.out.frozenAt 0
  have f1 := HO.out.frozenAt 1
  have f2 := HO.out.frozenAt 2
  have f3 := HO.out.frozenAt 3
  have f4 := HO.out.frozenAt 4
  have f5 := HO.out.frozenAt 5
  have f6 := HO.out.frozenAt 6
  have f7 := HO.out.frozenAt 7
  have f8 := HO.out.frozenAt 8
  simp only [List.getElem?_cons_zero, List.getElem?_cons_succ] at c0 c1 c2 c3 c4 c5 c6 c7 c8
  cases m with
  | zero =>
    have d1 : ((t.length : Int) == (xs.length : Int)) = true := by have := HM.out; rw [beq_iff_eq]; omega
    go_enter Try.func80, Try.ntmps80
    go_wp2_with fail
    go_ret
    exact ⟨HB.out, rfl, _, _, _, HST.out⟩
  | succ m' =>
    have htl : t.length < xs.length := by have := HM.out; omega
    have d1 : ((t.length : Int) == (xs.length : Int)) = false := by rw [beq_eq_false_iff_ne]; omega
    have HIH2 := hid (HIH.out m' rfl)
    have HM2 := hid (show t.length + 1 + m' = xs.length by have := HM.out; omega)
    have HR := hid (show cutS (lens xs) strip saw mo (m' + 1) fr t l = loopC (fun k l2 => if frB fr k (strip + saw) < (lens xs).getD t.length 0 + saw then Cut.fail l2 else if l2 = 0 then Cut.full else cutS (lens xs) strip saw mo m' ((frA fr k (strip + saw)).set k (frB fr k (strip + saw) - ((lens xs).getD t.length 0 + saw))) (t ++ [k]) (l2 - 1)) (min (fr.length + 1) mo) 0 l from rfl)
    obtain ⟨nw, hnw⟩ : ∃ n, n = min (fr.length + 1) mo := ⟨_, rfl⟩
    have hnw1 : nw ≤ fr.length + 1 := by omega
    have hnw2 : nw ≤ mo := by omega
    have hnw3 : ∀ k, k ≤ fr.length → k < mo → k < nw := fun k h1 h2 => by omega
    have HNW := hid hnw3
    rw [← hnw] at HR
    clear HIH HM hnw hnw3
    go_enter Try.func80, Try.ntmps80
    go_wp2_with fail
    go_loopw [6] (fun i wr => ∃ (k l2 : Nat) (fl : Bool), (k ≤ nw ∧ i = .int .i64 k) ∧ Hid ((fl = false ∧ cutS (lens xs) strip saw mo (m' + 1) fr t l = loopC (fun k l2 => if frB fr k (strip + saw) < (lens xs).getD t.length 0 + saw then Cut.fail l2 else if l2 = 0 then Cut.full else cutS (lens xs) strip saw mo m' ((frA fr k (strip + saw)).set k (frB fr k (strip + saw) - ((lens xs).getD t.length 0 + saw))) (t ++ [k]) (l2 - 1)) (nw - k) k l2) ∨ (fl = true ∧ l2 = 0 ∧ cutS (lens xs) strip saw mo (m' + 1) fr t l = .full)) ∧ (l2 : Int) ≤ bud ∧ Below b w0 wr ∧ RutAt b (.slice A xs.length c) strip saw (mo : Int) (usOf strip fr mo) t (bud - (l2 : Int)) bud fl wr) (fun i _ => nw - (intOf i).toNat)
    case atStart => exact ⟨0, l, false, ⟨Nat.zero_le _, rfl⟩, .inl ⟨rfl, HR.out⟩, hl, HB.out, HST.out⟩
    case round =>
      clear c0 f0 c1 f1 c2 f2 c3 f3 c4 f4 c5 f5 c6 f6 c7 f7 c8 f8 HO d1 HST HB HR
      obtain ⟨k, l2, fl, ⟨hk, rfl⟩, HE, hl2, hbr, hst⟩ := hrel
      have SR := hid hst
      have BR := hid hbr
      have hbr2 := hst.lt
      clear hst hbr
      obtain ⟨Au, cu, At, ct, ho, hf, ht, hap⟩ := SR.out
      have HO := hid ho
      clear ho hf ht hap
      have c3 := HO.out.cellAt 3 (by omega)
      have f3 := HO.out.frozenAt 3
      simp only [List.getElem?_cons_zero, List.getElem?_cons_succ] at c3
      have q0 : (0 : Int) ≤ (k : Int) := by omega
      by_cases hk2 : k < mo
      · by_cases hk1 : k ≤ fr.length
        · have hkn := HNW.out k hk1 hk2
          have hle : nw - k = (nw - (k + 1)) + 1 := by omega
          have q1 : (k : Int) ≤ (fr.length : Int) := by omega
          have q2 : (k : Int) < (mo : Int) := by omega
          obtain ⟨y0, y1⟩ := HPP.out xs[t.length] (List.getElem_mem htl)
          obtain ⟨uk, nk, u0, u1, u2, u3, u4, u5, u6⟩ := us_facts (strip := strip) (saw := saw) (ln := xs[t.length].fLength) hk1 hk2 HF.out y0 hs1.1 hs0.1
          have HU0 := hid u0
          have HU1 := hid u1
          have HU2 := hid u2
          have HU3 := hid u3
          have HUK2 := hid (show (usOf strip fr mo).set k uk = (usOf strip fr mo) by
            apply List.ext_getElem?
            intro i
            by_cases hi : k = i
            · subst hi
              rw [List.getElem?_set_self (by rw [usOf_length]; exact hk2), u0]
            · rw [List.getElem?_set_ne hi])
          have HLN := hid (lens_at htl)
          obtain ⟨ab, ao, hAe, hlt, hc⟩ := HA.out (by intro e; rw [List.map_eq_nil_iff] at e; rw [e] at htl; exact absurd htl (by simp))
          subst hAe
          have HX1 := hid (show w0.cell? ⟨ab, ao + t.length * 3 + 1, none⟩ = some (.int .i64 xs[t.length].fLength) from hc t.length _ (by rw [List.getElem?_map, List.getElem?_eq_getElem htl]; rfl) 1 _ rfl)
          have z0 : (0 : Int) ≤ (t.length : Int) := by omega
          have z1 : (t.length : Int) < xs.length := by omega
          clear hc u0 u1 u2 u3 c3 f3 HO
          have BW0 := hid (show Below w0.heap.size w0 wr by rw [← HB0.out]; exact BR.out)
          have x1 : wr.cell? ⟨ab, ao + t.length * 3 + 1, none⟩ = some (.int .i64 xs[t.length].fLength) := (BW0.out.cell (p := ⟨ab, ao + t.length * 3 + 1, none⟩) hlt).trans HX1.out
          obtain ⟨Au, cu, At, ct, ho, hf, ht, hap⟩ := SR.out
          have HO := hid ho
          clear ho hf ht hap
          obtain ⟨g, cg, ⟨e3, e4, e5⟩, ⟨e6, e7⟩, -⟩ := SR.out.setU HU0.out
          rw [usOf_length] at e3 e5
          have c0 := HO.out.cellAt 0 (by omega)
          have c1 := HO.out.cellAt 1 (by omega)
          have c2 := HO.out.cellAt 2 (by omega)
          have c3 := HO.out.cellAt 3 (by omega)
          have c6 := HO.out.cellAt 6 (by omega)
          have c7 := HO.out.cellAt 7 (by omega)
          have f0 := HO.out.frozenAt 0
          have f1 := HO.out.frozenAt 1
          have f2 := HO.out.frozenAt 2
          have f3 := HO.out.frozenAt 3
          have f6 := HO.out.frozenAt 6
          have f7 := HO.out.frozenAt 7
          simp only [List.getElem?_cons_zero, List.getElem?_cons_succ] at c0 c1 c2 c3 c6 c7
          go_wp2_with fail
          go_quiet ((go_at_call 141; with_reducible exact quiet_left (l06Take_ok _ _ _ nk _ HU1.out (by omega) (by omega))))
          have S1 := hid (SR.out.drewN nq)
          have B1 := hid (below_drewN' BR.out nq)
          clear c0 f0 c1 f1 c2 f2 c3 f3 c6 f6 c7 f7 HO x1 BW0 e3 e4 e5 e6 e7 SR BR
          generalize wr.drewN nq = W1 at S1 B1 ⊢
          have BW0 := hid (show Below w0.heap.size w0 W1 by rw [← HB0.out]; exact B1.out)
          have x1 : W1.cell? ⟨ab, ao + t.length * 3 + 1, none⟩ = some (.int .i64 xs[t.length].fLength) := (BW0.out.cell (p := ⟨ab, ao + t.length * 3 + 1, none⟩) hlt).trans HX1.out
          obtain ⟨Au, cu, At, ct, ho, hf, ht, hap⟩ := S1.out
          have HO := hid ho
          clear ho hf ht hap
          obtain ⟨g, cg, ⟨e3, e4, e5⟩, ⟨e6, e7⟩, -⟩ := S1.out.setU HU0.out
          rw [usOf_length] at e3 e5
          have c0 := HO.out.cellAt 0 (by omega)
          have c1 := HO.out.cellAt 1 (by omega)
          have c2 := HO.out.cellAt 2 (by omega)
          have c3 := HO.out.cellAt 3 (by omega)
          have c6 := HO.out.cellAt 6 (by omega)
          have c7 := HO.out.cellAt 7 (by omega)
          have f0 := HO.out.frozenAt 0
          have f1 := HO.out.frozenAt 1
          have f2 := HO.out.frozenAt 2
          have f3 := HO.out.frozenAt 3
          have f6 := HO.out.frozenAt 6
          have f7 := HO.out.frozenAt 7
          simp only [List.getElem?_cons_zero, List.getElem?_cons_succ] at c0 c1 c2 c3 c6 c7
          have w1 : IntKind.i64.wrap (uk + nk) = uk + nk := IntWalk.i64_in _ (by omega)
          go_wp2_with fail
          by_cases hroom : strip < uk + nk
          · have HEN := hid (show (fl = false ∧ cutS (lens xs) strip saw mo (m' + 1) fr t l = loopC (fun k l2 => if frB fr k (strip + saw) < (lens xs).getD t.length 0 + saw then Cut.fail l2 else if l2 = 0 then Cut.full else cutS (lens xs) strip saw mo m' ((frA fr k (strip + saw)).set k (frB fr k (strip + saw) - ((lens xs).getD t.length 0 + saw))) (t ++ [k]) (l2 - 1)) (nw - (k + 1)) (k + 1) l2) ∨ (fl = true ∧ l2 = 0 ∧ cutS (lens xs) strip saw mo (m' + 1) fr t l = .full) by
              rcases HE.out with ⟨h1, h2⟩ | h1
              · refine .inl ⟨h1, ?_⟩
                rw [h2, hle]
                exact loopC_fail (by simp only [HLN.out, if_pos (HU2.out.1 hroom)])
              · exact .inr h1)
            go_quiet (fail)
            go_wp2_with fail
            go_roundw
            case rel => exact ⟨k + 1, l2, fl, ⟨by omega, by go_num⟩, HEN.out, hl2, below_drewN' B1.out _, S1.out.drewN _⟩
            case measure => simp [intOf]; omega
          · have HRM := hid (show decide (frB fr k (strip + saw) < xs[t.length].fLength + saw) = false from decide_eq_false fun h => hroom (HU2.out.2 h))
            go_quiet (fail)
            have S2 := hid (S1.out.drewN nq)
            have B2 := hid (below_drewN' B1.out nq)
            clear c0 f0 c1 f1 c2 f2 c3 f3 c6 f6 c7 f7 HO x1 BW0 e3 e4 e5 e6 e7 S1 B1
            generalize W1.drewN nq = W2 at S2 B2 ⊢
            have BW0 := hid (show Below w0.heap.size w0 W2 by rw [← HB0.out]; exact B2.out)
            have x1 : W2.cell? ⟨ab, ao + t.length * 3 + 1, none⟩ = some (.int .i64 xs[t.length].fLength) := (BW0.out.cell (p := ⟨ab, ao + t.length * 3 + 1, none⟩) hlt).trans HX1.out
            obtain ⟨Au, cu, At, ct, ho, hf, ht, hap⟩ := S2.out
            have HO := hid ho
            clear ho hf ht hap
            obtain ⟨g, cg, ⟨e3, e4, e5⟩, ⟨e6, e7⟩, -⟩ := S2.out.setU HU0.out
            rw [usOf_length] at e3 e5
            have c0 := HO.out.cellAt 0 (by omega)
            have c1 := HO.out.cellAt 1 (by omega)
            have c2 := HO.out.cellAt 2 (by omega)
            have c3 := HO.out.cellAt 3 (by omega)
            have c6 := HO.out.cellAt 6 (by omega)
            have c7 := HO.out.cellAt 7 (by omega)
            have f0 := HO.out.frozenAt 0
            have f1 := HO.out.frozenAt 1
            have f2 := HO.out.frozenAt 2
            have f3 := HO.out.frozenAt 3
            have f6 := HO.out.frozenAt 6
            have f7 := HO.out.frozenAt 7
            simp only [List.getElem?_cons_zero, List.getElem?_cons_succ] at c0 c1 c2 c3 c6 c7
            go_wp2_with fail
            by_cases hl0 : l2 = 0
            · have HEN := hid (show cutS (lens xs) strip saw mo (m' + 1) fr t l = .full by
                rcases HE.out with ⟨h1, h2⟩ | ⟨_, _, h2⟩
                · rw [h2, hle]
                  exact loopC_full (by simp only [HLN.out, if_neg (of_decide_eq_false HRM.out), if_pos hl0])
                · exact h2)
              have d2 : (bud - (l2 : Int) == bud) = true := by rw [beq_iff_eq]; omega
              have HL0 := hid (show bud - (l2 : Int) = bud by omega)
              clear hl0
              go_quiet (fail)
              have S3 := hid (S2.out.drewN nq)
              have B3 := hid (below_drewN' B2.out nq)
              clear c0 f0 c1 f1 c2 f2 c3 f3 c6 f6 c7 f7 HO x1 BW0 e3 e4 e5 e6 e7 S2 B2
              generalize W2.drewN nq = W3 at S3 B3 ⊢
              have BW0 := hid (show Below w0.heap.size w0 W3 by rw [← HB0.out]; exact B3.out)
              have x1 : W3.cell? ⟨ab, ao + t.length * 3 + 1, none⟩ = some (.int .i64 xs[t.length].fLength) := (BW0.out.cell (p := ⟨ab, ao + t.length * 3 + 1, none⟩) hlt).trans HX1.out
              obtain ⟨Au, cu, At, ct, ho, hf, ht, hap⟩ := S3.out
              have HO := hid ho
              clear ho hf ht hap
              have c8 := HO.out.cellAt 8 (by omega)
              have f8 := HO.out.frozenAt 8
              simp only [List.getElem?_cons_zero, List.getElem?_cons_succ] at c8
              have S4 := hid S3.out.setFull.1
              have B4 := hid (B3.out.trans S3.out.setFull.2)
              go_wp2_with fail
              go_ret
              refine ⟨B4.out, ?_⟩
              rw [HEN.out]
              refine ⟨rfl, ?_⟩
              have h9 := S4.out
              rw [HL0.out] at h9
              exact h9
            · have d2 : (bud - (l2 : Int) == bud) = false := by rw [beq_eq_false_iff_ne]; omega
              have hl1 : 1 ≤ l2 := by omega
              have HF1 := hid (show fl = false ∧ cutS (lens xs) strip saw mo (m' + 1) fr t l = loopC (fun k l2 => if frB fr k (strip + saw) < (lens xs).getD t.length 0 + saw then Cut.fail l2 else if l2 = 0 then Cut.full else cutS (lens xs) strip saw mo m' ((frA fr k (strip + saw)).set k (frB fr k (strip + saw) - ((lens xs).getD t.length 0 + saw))) (t ++ [k]) (l2 - 1)) ((nw - (k + 1)) + 1) k l2 by
                rcases HE.out with ⟨h1, h2⟩ | ⟨_, h1, _⟩
                · exact ⟨h1, by rw [h2, hle]⟩
                · exact absurd h1 hl0)
              have hF2 := hid (show (fun k l2 => if frB fr k (strip + saw) < (lens xs).getD t.length 0 + saw then Cut.fail l2 else if l2 = 0 then Cut.full else cutS (lens xs) strip saw mo m' ((frA fr k (strip + saw)).set k (frB fr k (strip + saw) - ((lens xs).getD t.length 0 + saw))) (t ++ [k]) (l2 - 1)) k l2 = cutS (lens xs) strip saw mo m' ((frA fr k (strip + saw)).set k (frB fr k (strip + saw) - (xs[t.length].fLength + saw))) (t ++ [k]) (l2 - 1) by simp only [HLN.out, if_neg (of_decide_eq_false HRM.out), if_neg hl0])
              have hcast : (bud - (l2 : Int) + 1) = bud - ((l2 - 1 : Nat) : Int) := by omega
              clear hl0
              obtain rfl : fl = false := HF1.out.1
              go_quiet (fail)
              have S3 := hid (S2.out.drewN nq)
              have B3 := hid (below_drewN' B2.out nq)
              clear c0 f0 c1 f1 c2 f2 c3 f3 c6 f6 c7 f7 HO x1 BW0 e3 e4 e5 e6 e7 S2 B2
              generalize W2.drewN nq = W3 at S3 B3 ⊢
              have BW0 := hid (show Below w0.heap.size w0 W3 by rw [← HB0.out]; exact B3.out)
              have x1 : W3.cell? ⟨ab, ao + t.length * 3 + 1, none⟩ = some (.int .i64 xs[t.length].fLength) := (BW0.out.cell (p := ⟨ab, ao + t.length * 3 + 1, none⟩) hlt).trans HX1.out
              obtain ⟨Au, cu, At, ct, ho, hf, ht, hap⟩ := S3.out
              have HO := hid ho
              clear ho hf ht hap
              obtain ⟨g, cg, ⟨e3, e4, e5⟩, ⟨e6, e7⟩, -⟩ := S3.out.setU HU0.out
              rw [usOf_length] at e3 e5
              have c5 := HO.out.cellAt 5 (by omega)
              have c6 := HO.out.cellAt 6 (by omega)
              have c8 := HO.out.cellAt 8 (by omega)
              have f5 := HO.out.frozenAt 5
              have f6 := HO.out.frozenAt 6
              have f8 := HO.out.frozenAt 8
              simp only [List.getElem?_cons_zero, List.getElem?_cons_succ] at c5 c6 c8
              have S4 := hid (show RutAt b (.slice (some ⟨ab, ao, none⟩) xs.length c) strip saw (mo : Int) (usOf strip fr mo) t (bud - ((l2 - 1 : Nat) : Int)) bud false (W3.setCell ⟨b, 6, none⟩ (.int .i64 (bud - (l2 : Int) + 1))) by rw [← hcast]; exact (S3.out.setNodes _).1)
              have B4 := hid (B3.out.trans (S3.out.setNodes (bud - (l2 : Int) + 1)).2)
              have HSET := hid (S4.out.setU HU0.out)
              clear hcast
              go_upto_region 14 with fail
              generalize W3.setCell ⟨b, 6, none⟩ (.int .i64 (bud - (l2 : Int) + 1)) = W4 at S4 B4 HSET ⊢
              clear c5 f5 c6 f6 c8 f8 HO x1 BW0 e3 e4 e5 e6 e7 S3 B3
              obtain ⟨g, cg, ⟨e3, e4, e5⟩, ⟨e6, e7⟩, hset⟩ := HSET.out
              rw [usOf_length] at e3 e5
              have S5 := hid (show RutAt b (.slice (some ⟨ab, ao, none⟩) xs.length c) strip saw (mo : Int) (usOf strip ((frA fr k (strip + saw)).set k (frB fr k (strip + saw) - (xs[t.length].fLength + saw))) mo) t (bud - ((l2 - 1 : Nat) : Int)) bud false (W4.setCell ⟨g, k, none⟩ (.int .i64 (uk + nk))) by
                rw [usOf_set hk1 hk2, ← HU3.out]
                exact (hset _).1)
              have B5 := hid (B4.out.trans (hset (uk + nk)).2)
              clear hset HSET
              go_upto_region 15 with fail
              generalize W4.setCell ⟨g, k, none⟩ (.int .i64 (uk + nk)) = W5 at S5 B5 ⊢
              clear e3 e4 e5 e6 e7 S4 B4
              have hb5 := S5.out.lt
              obtain ⟨Au, cu, At, ct, ho, hf, ht, hap⟩ := S5.out
              have HO := hid ho
              have HUR := hid hf
              have HT := hid ht
              have HP := hid hap
              clear ho hf ht hap
              have c4 := HO.out.cellAt 4 (by omega)
              have f4 := HO.out.frozenAt 4
              simp only [List.getElem?_cons_zero, List.getElem?_cons_succ] at c4
              go_upto_region 16 with (at_builtin; refine wpList_app2 (w0 := W5) rfl (.tmp 105) (.tmp 107) 24 rfl (b + 1) 2 (.int .i64 0) 1 8 Try.underlying24 infoI rfl (by decide) _ _ _ rfl HT.out #[.int .i64 (k : Int)] 1 1 (by first | rfl | simp [Act.eval]) rfl (by simp [Value.oneCell']) (by omega) (by omega) (Below.refl _ _) ?_; intro v9 w9 hown9 hbel9 hgr9 hb9; obtain ⟨A9, c9, rfl⟩ := own_sliceV hown9; have R9 := hid (grow_row (s := 4) (q := 0) HO.out HT.out HUR.out HP.out.comm hown9 hgr9 hb9); have e1 := R9.out.2.2.2.2.2.1 4 (by omega); have i1 := R9.out.2.2.2.2.2.2 4; simp only [List.getElem?_cons_zero, List.getElem?_cons_succ] at e1; clear c4 f4 hown9 hbel9 hgr9 hb9)
              obtain ⟨r1, r2, r3, r4, r5, -⟩ := R9.out
              have S6 := hid (show RutAt b (.slice (some ⟨ab, ao, none⟩) xs.length c) strip saw (mo : Int) (usOf strip ((frA fr k (strip + saw)).set k (frB fr k (strip + saw) - (xs[t.length].fLength + saw))) mo) (t ++ [k]) (bud - ((l2 - 1 : Nat) : Int)) bud false (w9.setCell ⟨b, 4, none⟩ (.slice A9 (t.length + 1) c9)) by
                have el : (t ++ [k]).length = t.length + 1 := by simp
                unfold RutAt
                rw [el]
                exact ⟨Au, cu, A9, c9, r1, r3, by rw [tV_app]; exact r2, r4.comm⟩)
              have B6 := hid (B5.out.trans r5)
              clear r1 r2 r3 r4 r5 R9 e1 i1 HO HUR HT HP S5 B5
              generalize w9.setCell ⟨b, 4, none⟩ (.slice A9 (t.length + 1) c9) = W6 at S6 B6 ⊢
              have HFS := hid (FrS.set (strip := strip) (saw := saw) HF.out hk1 y0 hs1.1 (of_decide_eq_false HRM.out))
              have HFL := hid (show ((frA fr k (strip + saw)).set k (frB fr k (strip + saw) - (xs[t.length].fLength + saw))).length ≤ mo by
                rw [List.length_set]
                unfold frA
                split
                · exact hfl
                · rw [List.length_append, List.length_singleton]; omega)
              go_upto_if 114 with fail
              go_cut [8] (fun s8 wx => s8 = .int .i64 ((frA fr k (strip + saw)).length : Int) ∧ wx = W6)
              case first =>
                by_cases h : k < fr.length
                · have d3 : ((k : Int) == (fr.length : Int)) = false := by rw [beq_eq_false_iff_ne]; omega
                  have HE3 := hid (show (frA fr k (strip + saw)).length = fr.length by rw [frA_lt h])
                  go_wp2_with fail
                  go_meet
                  rw [HE3.out]
                  exact ⟨rfl, rfl⟩
                · obtain rfl : k = fr.length := by omega
                  have HE3 := hid (show ((frA fr fr.length (strip + saw)).length : Int) = (fr.length : Int) + 1 by rw [frA_end, List.length_append, List.length_singleton]; omega)
                  go_wp2_with fail
                  go_meet
                  rw [HE3.out]
                  exact ⟨rfl, rfl⟩
              case rest =>
                obtain ⟨rfl, rfl⟩ := hcut
                rename World => W6
                go_wp2_with fail
                have h9 := HIH2.out ((frA fr k (strip + saw)).set k (frB fr k (strip + saw) - (xs[t.length].fLength + saw))) (t ++ [k]) (l2 - 1) W6 (by have := HM2.out; rw [List.length_append, List.length_singleton]; omega) HFS.out HFL.out (by omega) B6.out S6.out
                rw [List.length_set] at h9
                refine h9.mono ?_
                clear h9
                rintro e W8 ⟨hb8, hr⟩
                have B8 := hid hb8
                clear hb8
                cases hq : cutS (lens xs) strip saw mo m' ((frA fr k (strip + saw)).set k (frB fr k (strip + saw) - (xs[t.length].fLength + saw))) (t ++ [k]) (l2 - 1) with
                | solved t2 =>
                  rw [hq] at hr
                  obtain ⟨rfl, us2, nd2, fl2, hst2⟩ := hr
                  have HEN := hid (show cutS (lens xs) strip saw mo (m' + 1) fr t l = .solved t2 by
                    rw [HF1.out.2]
                    exact loopC_solved (hF2.out.trans hq))
                  have S8 := hid hst2
                  clear hq hst2
                  go_wp2_with fail
                  go_ret
                  refine ⟨B8.out, ?_⟩
                  rw [HEN.out]
                  exact ⟨rfl, _, _, _, S8.out⟩
                | full =>
                  rw [hq] at hr
                  obtain ⟨rfl, hst2⟩ := hr
                  have HEN := hid (show cutS (lens xs) strip saw mo (m' + 1) fr t l = .full by
                    rw [HF1.out.2]
                    exact loopC_full (hF2.out.trans hq))
                  rw [usOf_set hk1 hk2, ← HU3.out] at hst2
                  have hbb : bud = bud - ((0 : Nat) : Int) := by omega
                  have S8 := hid (show RutAt b (.slice (some ⟨ab, ao, none⟩) xs.length c) strip saw (mo : Int) ((usOf strip fr mo).set k (uk + nk)) (t ++ [k]) (bud - ((0 : Nat) : Int)) bud true W8 by rw [← hbb]; exact hst2)
                  clear hq hst2 hbb
                  obtain ⟨g4, cg4, ⟨e3, ⟨h1, h2⟩, h3⟩, e4, hst4, hb4⟩ := S8.out.cutT
                  have S9 := hid hst4
                  have B9 := hid (B8.out.trans hb4)
                  have r2 : (0 : Int) ≤ (t.length : Int) := by omega
                  have r3 : (t.length : Int) ≤ (cg4 : Int) := by omega
                  clear hst4 hb4
                  go_upto_region 22 with fail
                  generalize W8.setCell ⟨b, 4, none⟩ (.slice (some ⟨g4, 0, none⟩) t.length cg4) = W9 at S9 B9 ⊢
                  clear e3 e4 h1 h2 h3 r2 r3
                  obtain ⟨g5, cg5, ⟨e3, e4, e5⟩, ⟨e6, e7⟩, hset⟩ := S9.out.setU (k := k) (u := uk + nk) (by rw [List.getElem?_set_self (by rw [usOf_length]; exact hk2)])
                  have SA := hid (show RutAt b (.slice (some ⟨ab, ao, none⟩) xs.length c) strip saw (mo : Int) (usOf strip fr mo) t (bud - ((0 : Nat) : Int)) bud true (W9.setCell ⟨g5, k, none⟩ (.int .i64 uk)) by
                    have h9 := (hset uk).1
                    rw [List.set_set, HUK2.out] at h9
                    exact h9)
                  have BA := hid (B9.out.trans (hset uk).2)
                  clear hset
                  rw [List.length_set, usOf_length] at e3 e5
                  have r1 : (k : Int) < (mo : Int) := by omega
                  go_wp2_with fail
                  go_roundw
                  case rel => exact ⟨k + 1, 0, true, ⟨by omega, by go_num⟩, .inr ⟨rfl, rfl, HEN.out⟩, by omega, BA.out, SA.out⟩
                  case measure => simp [intOf]; omega
                | fail l3 =>
                  rw [hq] at hr
                  obtain ⟨rfl, hl3, hst2⟩ := hr
                  have HEN := hid (show cutS (lens xs) strip saw mo (m' + 1) fr t l = loopC (fun k l2 => if frB fr k (strip + saw) < (lens xs).getD t.length 0 + saw then Cut.fail l2 else if l2 = 0 then Cut.full else cutS (lens xs) strip saw mo m' ((frA fr k (strip + saw)).set k (frB fr k (strip + saw) - ((lens xs).getD t.length 0 + saw))) (t ++ [k]) (l2 - 1)) (nw - (k + 1)) (k + 1) l3 by
                    rw [HF1.out.2]
                    exact loopC_fail (hF2.out.trans hq))
                  rw [usOf_set hk1 hk2, ← HU3.out] at hst2
                  have S8 := hid hst2
                  clear hq hst2
                  obtain ⟨g4, cg4, ⟨e3, ⟨h1, h2⟩, h3⟩, e4, hst4, hb4⟩ := S8.out.cutT
                  have S9 := hid hst4
                  have B9 := hid (B8.out.trans hb4)
                  have r2 : (0 : Int) ≤ (t.length : Int) := by omega
                  have r3 : (t.length : Int) ≤ (cg4 : Int) := by omega
                  clear hst4 hb4
                  go_upto_region 22 with fail
                  generalize W8.setCell ⟨b, 4, none⟩ (.slice (some ⟨g4, 0, none⟩) t.length cg4) = W9 at S9 B9 ⊢
                  clear e3 e4 h1 h2 h3 r2 r3
                  obtain ⟨g5, cg5, ⟨e3, e4, e5⟩, ⟨e6, e7⟩, hset⟩ := S9.out.setU (k := k) (u := uk + nk) (by rw [List.getElem?_set_self (by rw [usOf_length]; exact hk2)])
                  have SA := hid (show RutAt b (.slice (some ⟨ab, ao, none⟩) xs.length c) strip saw (mo : Int) (usOf strip fr mo) t (bud - (l3 : Int)) bud false (W9.setCell ⟨g5, k, none⟩ (.int .i64 uk)) by
                    have h9 := (hset uk).1
                    rw [List.set_set, HUK2.out] at h9
                    exact h9)
                  have BA := hid (B9.out.trans (hset uk).2)
                  clear hset
                  rw [List.length_set, usOf_length] at e3 e5
                  have r1 : (k : Int) < (mo : Int) := by omega
                  go_wp2_with fail
                  go_roundw
                  case rel => exact ⟨k + 1, l3, false, ⟨by omega, by go_num⟩, .inl ⟨rfl, HEN.out⟩, hl3, BA.out, SA.out⟩
                  case measure => simp [intOf]; omega
        · have HEN := hid (show (fl = false ∧ cutS (lens xs) strip saw mo (m' + 1) fr t l = .fail l2) ∨ (fl = true ∧ l2 = 0 ∧ cutS (lens xs) strip saw mo (m' + 1) fr t l = .full) by
            rcases HE.out with ⟨h1, h2⟩ | h1
            · exact .inl ⟨h1, by rw [h2, show nw - k = 0 by omega]; rfl⟩
            · exact .inr h1)
          have q1 : ¬ (k : Int) ≤ (fr.length : Int) := by omega
          have q2 : (k : Int) < (mo : Int) := by omega
          go_wp2_with fail
          go_ret
          refine ⟨BR.out, ?_⟩
          rcases HEN.out with ⟨rfl, h2⟩ | ⟨rfl, rfl, h2⟩
          · rw [h2]
            exact ⟨rfl, hl2, SR.out⟩
          · rw [h2]
            have h9 := SR.out
            rw [show bud - ((0 : Nat) : Int) = bud by omega] at h9
            exact ⟨rfl, h9⟩
      · have HEN := hid (show (fl = false ∧ cutS (lens xs) strip saw mo (m' + 1) fr t l = .fail l2) ∨ (fl = true ∧ l2 = 0 ∧ cutS (lens xs) strip saw mo (m' + 1) fr t l = .full) by
          rcases HE.out with ⟨h1, h2⟩ | h1
          · exact .inl ⟨h1, by rw [h2, show nw - k = 0 by omega]; rfl⟩
          · exact .inr h1)
        have q2 : ¬ (k : Int) < (mo : Int) := by omega
        go_wp2_with fail
        go_ret
        refine ⟨BR.out, ?_⟩
        rcases HEN.out with ⟨rfl, h2⟩ | ⟨rfl, rfl, h2⟩
        · rw [h2]
          exact ⟨rfl, hl2, SR.out⟩
        · rw [h2]
          have h9 := SR.out
          rw [show bud - ((0 : Nat) : Int) = bud by omega] at h9
          exact ⟨rfl, h9⟩
/-- the reference's search -/
theorem rutSearch (xs : List DRib) (A : Option Addr) (c b mo : Nat) (w0 : World) (strip saw : Int) (hA : RowsAt w0 3 A (xs.map DRib.cells)) (hb0 : b = w0.heap.size) (hs0 : 1 ≤ strip ∧ strip ≤ 100000) (hs1 : 0 ≤ saw ∧ saw ≤ 100) (hP : ∀ x ∈ xs, 1 ≤ x.fLength ∧ x.fLength ≤ 10000) (hn : xs.length ≤ 8) (hmo : mo ≤ 8) (bud : Int) (hbud : bud ≤ 20000) : ∀ (m : Nat), ∀ (fr : List Int) (t : List Nat) (l : Nat) (w : World), t.length + m = xs.length → FrS strip fr → fr.length ≤ mo → (l : Int) ≤ bud → Below b w0 w → RutAt b (.slice A xs.length c) strip saw (mo : Int) (usOf strip fr mo) t (bud - (l : Int)) bud false w →
    Calls Try.prog 80 #[.pointer (some ⟨b, 0, none⟩), .int .i64 (fr.length : Int)] w (LPost b w0 (.slice A xs.length c) strip saw (mo : Int) bud (cutS (lens xs) strip saw mo m fr t l) (usOf strip fr mo) t)
  | 0 => rut_step xs A c b mo w0 strip saw hA hb0 hs0 hs1 hP hn hmo bud hbud 0 (fun m' h => by omega)
  | m + 1 => rut_step xs A c b mo w0 strip saw hA hb0 hs0 hs1 hP hn hmo bud hbud (m + 1) (fun m' h => by
    obtain rfl : m = m' := by omega
    exact rutSearch xs A c b mo w0 strip saw hA hb0 hs0 hs1 hP hn hmo bud hbud m)
end Go.Proofs.Ytdbjbkdcmhekfaa
