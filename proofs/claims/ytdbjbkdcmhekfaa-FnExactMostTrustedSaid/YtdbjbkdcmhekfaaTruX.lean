/- MostTrusted: the program's search: a paper that is free. -/
import Derived.Test.YtdbjbkdcmhekfaaTruW
namespace Go.Proofs.Ytdbjbkdcmhekfaa
open Go.RowKit
set_option linter.unusedVariables false

attribute [-go_sem] Go.Builtin.append_
/-- a builtin append whose run is known, as one step of a region that draws -/
theorem step_app_known {P : Program} {wr w' : World} {ops : Array Oper} {o : Oper} {a : Act} {K : Act → World → Prop} {Q : Exit → Act → World → Prop} {E : Prop} (hgd : o.guard = none) (s x : Operand) (t : TypeId)
    (ho : o.op = .call { callee := .builtin .append, args := #[s, x], argTypes := #[t, t] })
    (v u v' : Value) (hs : a.eval s = v) (hx : a.eval x = u) (hr : (Builtin.append_ #[t, t] o.type #[v, u]).run P wr = .ok v' w') (h : K (a.put o.dst v') w') :
    if Region.wanted o (yielded ops a.tmps) = true then Oper.wp P o a wr K Q else E := by
  have hw : Region.wanted o (yielded ops a.tmps) = true := by simp [Region.wanted, hgd]
  rw [if_pos hw]
  unfold Oper.wp execOp
  simp only [ho, resolve, invoke, builtin, Sem.run_bind, Sem.run_pure, Result.andThen_ok, List.map_toArray, List.map_cons, List.map_nil, hs, hx, hr]
  exact h

set_option maxHeartbeats 6400000 in
set_option maxRecDepth 100000 in
theorem search_free (xs : List DPaper) (A : Option Addr) (c b : Nat) (w0 : World) (hA : RowsAt w0 5 A (xs.map DPaper.cells)) (hb0 : b = w0.heap.size) (hP : ∀ x ∈ xs, x.fEarly ≤ x.fLate ∧ 0 ≤ x.fTrust ∧ x.fTrust ≤ 1000) (hn : xs.length ≤ 1000) (m k : Nat) (hk : k < xs.length)
    (ih : ∀ (t : List Nat) (s : Int) (S : WS) (w : World), (∀ i ∈ t, i < xs.length) → t.length ≤ k + 1 → 0 ≤ s → s ≤ 1000 * ((k : Int) + 1) → S.left ≤ 20000 → Below b w0 w → TruAt b (.slice A xs.length c) (S.left : Int) S.best S.most t s w → Calls Try.prog 74 #[.pointer (some ⟨b, 0, none⟩), .int .i64 ((k : Int) + 1)] w (SPost b w0 w (.slice A xs.length c) (srchT xs m (k + 1) t s S) t s))
    (t : List Nat) (s : Int) (S : WS) (w : World) (ht : ∀ i ∈ t, i < xs.length) (htl : t.length ≤ k) (hs0 : 0 ≤ s) (hs1 : s ≤ 1000 * (k : Int)) (hl : S.left ≤ 20000) (hbl : Below b w0 w) (hst : TruAt b (.slice A xs.length c) (S.left : Int) S.best S.most t s w) (hz : clAny xs t k = false) :
    Calls Try.prog 74 #[.pointer (some ⟨b, 0, none⟩), .int .i64 (k : Int)] w (SPost b w0 w (.slice A xs.length c) (srchT xs (m + 1) k t s S) t s) := by
  obtain ⟨At, ct, Ab, cb, ho, htk, hbs, hap⟩ := hst
  have HO := hid ho
  have HT := hid htk
  have HS := hid hbs
  have HP := hid hap
  have HB := hid hbl
  have HIH := hid ih
  have HI := hid ht
  have HPP := hid hP
  have HZ := hid hz
  have HAA := hid hA
  obtain ⟨ab, ao, rfl, hlt, hc⟩ := (hA.below (show Below w0.heap.size w0 w by rw [← hb0]; exact hbl)) (by intro e; rw [List.map_eq_nil_iff] at e; rw [e] at hk; exact absurd hk (by simp))
  have x0 : w.cell? ⟨ab, ao + k * 5, none⟩ = some (.string xs[k].fId) := hc k _ (by rw [List.getElem?_map, List.getElem?_eq_getElem hk]; rfl) 0 _ rfl
  have x1 : w.cell? ⟨ab, ao + k * 5 + 1, none⟩ = some (.string xs[k].fMaker) := hc k _ (by rw [List.getElem?_map, List.getElem?_eq_getElem hk]; rfl) 1 _ rfl
  have x2 : w.cell? ⟨ab, ao + k * 5 + 2, none⟩ = some (.int .i64 xs[k].fEarly) := hc k _ (by rw [List.getElem?_map, List.getElem?_eq_getElem hk]; rfl) 2 _ rfl
  have x3 : w.cell? ⟨ab, ao + k * 5 + 3, none⟩ = some (.int .i64 xs[k].fLate) := hc k _ (by rw [List.getElem?_map, List.getElem?_eq_getElem hk]; rfl) 3 _ rfl
  have x4 : w.cell? ⟨ab, ao + k * 5 + 4, none⟩ = some (.int .i64 xs[k].fTrust) := hc k _ (by rw [List.getElem?_map, List.getElem?_eq_getElem hk]; rfl) 4 _ rfl
  have q0 : (0 : Int) ≤ (k : Int) := by omega
  have q1 : (k : Int) < xs.length := by omega
  have q2 : ((k : Int) == (xs.length : Int)) = false := by rw [beq_eq_false_iff_ne]; omega
  have HB0 := hid hb0
  have hbw : b < w.heap.size := (HO.out.lt b rfl).2
  clear ho htk hbs hap hbl ih ht hP hz hA hc hb0
  have c0 := HO.out.cellAt 0 (by omega)
  have c1 := HO.out.cellAt 1 (by omega)
  have c2 := HO.out.cellAt 2 (by omega)
  have c3 := HO.out.cellAt 3 (by omega)
  have c4 := HO.out.cellAt 4 (by omega)
  have c5 := HO.out.cellAt 5 (by omega)
  have f0 := HO.out.frozenAt 0
  have f1 := HO.out.frozenAt 1
  have f2 := HO.out.frozenAt 2
  have f3 := HO.out.frozenAt 3
  have f4 := HO.out.frozenAt 4
  have f5 := HO.out.frozenAt 5
  simp only [List.getElem?_cons_zero, List.getElem?_cons_succ] at c0 c1 c2 c3 c4 c5
  go_enter Try.func74, Try.ntmps74
  go_wp2_with fail
  go_region
  have OQ := (show ((w.alloc (.cells #[.string xs[k].fId, .string xs[k].fMaker, .int .i64 xs[k].fEarly, .int .i64 xs[k].fLate, .int .i64 xs[k].fTrust] 101)).drew).ownsRow b 105 6 (.slice (some ⟨b, 0, none⟩) 1 1) 1 [.slice (some ⟨ab, ao, none⟩) xs.length c, .int .i64 (S.left : Int), .slice At t.length ct, .int .i64 s, .slice Ab S.best.length cb, .int .i64 S.most] from HO.out.alloc _)
  have TQ := (show ((w.alloc (.cells #[.string xs[k].fId, .string xs[k].fMaker, .int .i64 xs[k].fEarly, .int .i64 xs[k].fLate, .int .i64 xs[k].fTrust] 101)).drew).ownsRow (b + 1) 2 1 (.slice At t.length ct) t.length (tV t) from HT.out.alloc _)
  have SQ := (show ((w.alloc (.cells #[.string xs[k].fId, .string xs[k].fMaker, .int .i64 xs[k].fEarly, .int .i64 xs[k].fLate, .int .i64 xs[k].fTrust] 101)).drew).ownsRow (b + 1) 2 1 (.slice Ab S.best.length cb) S.best.length (tV S.best) from HS.out.alloc _)
  have BQ := (HB.out.alloc (Nat.le_of_lt hbw) (.cells #[.string xs[k].fId, .string xs[k].fMaker, .int .i64 xs[k].fEarly, .int .i64 xs[k].fLate, .int .i64 xs[k].fTrust] 101)).drew
  have XQ := (show HasC ((w.alloc (.cells #[.string xs[k].fId, .string xs[k].fMaker, .int .i64 xs[k].fEarly, .int .i64 xs[k].fLate, .int .i64 xs[k].fTrust] 101)).drew) w.heap.size [.string xs[k].fId, .string xs[k].fMaker, .int .i64 xs[k].fEarly, .int .i64 xs[k].fLate, .int .i64 xs[k].fTrust] from HasC.new w [.string xs[k].fId, .string xs[k].fMaker, .int .i64 xs[k].fEarly, .int .i64 xs[k].fLate, .int .i64 xs[k].fTrust] 101)
  have KQ := Kept.of_below hbw (below_alloc w (.cells #[.string xs[k].fId, .string xs[k].fMaker, .int .i64 xs[k].fEarly, .int .i64 xs[k].fLate, .int .i64 xs[k].fTrust] 101)).drew
  clear c0 c1 c2 c3 c4 c5 f0 f1 f2 f3 f4 f5 x0 x1 x2 x3 x4
  generalize (w.alloc (.cells #[.string xs[k].fId, .string xs[k].fMaker, .int .i64 xs[k].fEarly, .int .i64 xs[k].fLate, .int .i64 xs[k].fTrust] 101)).drew = W at OQ TQ SQ BQ XQ KQ ⊢
  have KQ := hid KQ
  have OQ := hid OQ
  have TQ := hid TQ
  have SQ := hid SQ
  have BQ := hid BQ
  have XQ := hid XQ
  have hbW : b < W.heap.size := (OQ.out.lt b rfl).2
  have hxW : w.heap.size < W.heap.size := XQ.out.1
  have c0 := OQ.out.cellAt 0 (by omega)
  have c1 := OQ.out.cellAt 1 (by omega)
  have c2 := OQ.out.cellAt 2 (by omega)
  have c3 := OQ.out.cellAt 3 (by omega)
  have c4 := OQ.out.cellAt 4 (by omega)
  have c5 := OQ.out.cellAt 5 (by omega)
  have f0 := OQ.out.frozenAt 0
  have f1 := OQ.out.frozenAt 1
  have f2 := OQ.out.frozenAt 2
  have f3 := OQ.out.frozenAt 3
  have f4 := OQ.out.frozenAt 4
  have f5 := OQ.out.frozenAt 5
  simp only [List.getElem?_cons_zero, List.getElem?_cons_succ] at c0 c1 c2 c3 c4 c5
  have x0 := XQ.out.2 0 _ rfl
  have x1 := XQ.out.2 1 _ rfl
  have x2 := XQ.out.2 2 _ rfl
  have x3 := XQ.out.2 3 _ rfl
  have x4 := XQ.out.2 4 _ rfl
  have AQ := hid (HAA.out.below (show Below w0.heap.size w0 W by rw [← HB0.out]; exact BQ.out))
  have hx9 := HPP.out xs[k] (List.getElem_mem hk)
  go_wp2_with fail
  apply wp_post (R := fun w' => Below W.heap.size W w')
  · go_region_with (first | (go_at_call 138; refine (clashesWith_ok xs _ c xs[k] t At ct _ (AQ.out.below (Below.refl _ _).drew) (by omega) (ints_own (show W.drew.ownsRow (b + 1) 2 1 (.slice At t.length ct) t.length (tV t) from TQ.out)) HI.out (by omega) (fun y hy => (HPP.out y hy).1) hx9.1 false ((clAny_eq (t := t) hk).trans HZ.out)).mono ?_; rintro e w3 ⟨rfl, hb3⟩))
    all_goals exact ⟨rfl, (Below.refl W.heap.size W).drew.trans hb3⟩
  · intro w2 hb2
    have ST2 := hid (show TruAt b (.slice (some ⟨ab, ao, none⟩) xs.length c) (S.left : Int) S.best S.most t s w2 from ⟨At, ct, Ab, cb, own_below OQ.out hb2, own_below TQ.out hb2, own_below SQ.out hb2, HP.out⟩)
    have B2 := hid (below_up BQ.out (Nat.le_of_lt hbW) hb2)
    have X2 := hid (XQ.out.below hb2)
    have K2 := hid (KQ.out.trans (Kept.of_below hbW hb2))
    have HRf := hid (show srchT xs (m + 1) k t s S = ((nodeT S).bind fun S1 => srchT xs m (k + 1) (t ++ [k]) (s + truOf xs k) S1).bind fun S2 => (nodeT S2).bind fun S3 => srchT xs m (k + 1) t s S3 by rw [srchT, if_neg (by rw [HZ.out]; decide)])
    have HNB := hid (ST2.out)
    have O2 := own_below OQ.out hb2
    have d1 := O2.cellAt 1 (by omega)
    have g1 := O2.frozenAt 1
    simp only [List.getElem?_cons_zero, List.getElem?_cons_succ] at d1
    have x24 := X2.out.2 4 _ rfl
    have hx2 : w.heap.size < w2.heap.size := X2.out.1
    have hxb : w.heap.size ≠ b := by omega
    have hTt : (Value.slice At t.length ct).ownBlock ≠ some w.heap.size := fun e => by
      have := (HT.out.lt _ e).2
      omega
    have T2 := own_below TQ.out hb2
    have S2 := own_below SQ.out hb2
    clear hb2
    by_cases hl0 : S.left = 0
    · have HE := hid (show srchT xs (m + 1) k t s S = none by rw [HRf.out, nodeT, if_pos hl0]; rfl)
      have HL := hid hl0
      go_wp2_with fail
      refine (nodeI_ok b _ _ d1 g1 (by omega) (by omega)).mono ?_
      rintro e w3 ⟨he, rfl⟩
      obtain rfl : e = .returned (.bool false) := he.trans (by rw [HL.out]; rfl)
      clear he
      go_wp2_with fail
      go_ret
      refine ⟨⟨B2.out.setCell (p := ⟨b, 1, none⟩) (Nat.le_refl _) _, K2.out.trans (Kept.store (by decide))⟩, ?_⟩
      rw [HE.out]
      refine ⟨rfl, S.best, S.most, ?_⟩
      have h9 := node_at HNB.out
      have e9 : (S.left : Int) - 1 = -1 := by rw [HL.out]; rfl
      rw [e9] at h9
      first | exact h9 | (rw [e9]; exact h9)
    · have hl1 : 1 ≤ S.left := by omega
      have HN1 := hid (show nodeT S = some ⟨S.left - 1, S.best, S.most⟩ by rw [nodeT, if_neg hl0])
      have hcast : ((S.left - 1 : Nat) : Int) = (S.left : Int) - 1 := by omega
      have O3 := (show (w2.setCell ⟨b, 1, none⟩ (.int .i64 ((S.left : Int) - 1))).ownsRow b 105 6 (.slice (some ⟨b, 0, none⟩) 1 1) 1 [.slice (some ⟨ab, ao, none⟩) xs.length c, .int .i64 ((S.left - 1 : Nat) : Int), .slice At t.length ct, .int .i64 s, .slice Ab S.best.length cb, .int .i64 S.most] by rw [hcast]; exact own_setCells [.int .i64 ((S.left : Int) - 1)] (p := 1) O2)
      have T3 := own_apart T2 (p := ⟨b, 1, none⟩) (by simp) (.int .i64 ((S.left : Int) - 1))
      have S3 := own_apart S2 (p := ⟨b, 1, none⟩) (by simp) (.int .i64 ((S.left : Int) - 1))
      have B3 := B2.out.setCell (p := ⟨b, 1, none⟩) (Nat.le_refl _) (.int .i64 ((S.left : Int) - 1))
      have K3 := K2.out.trans (Kept.store (b := b) (i := 1) (v := .int .i64 ((S.left : Int) - 1)) (by decide))
      have x3 : (w2.setCell ⟨b, 1, none⟩ (.int .i64 ((S.left : Int) - 1))).cell? ⟨w.heap.size, 4, none⟩ = some (.int .i64 xs[k].fTrust) := (World.cell?_setCell_far w2 _ _ _ (fun e => hxb e.symm)).trans x24
      have hxW3 : w.heap.size < (w2.setCell ⟨b, 1, none⟩ (.int .i64 ((S.left : Int) - 1))).heap.size := by simp; exact hx2
      clear hcast
      go_wp2_with fail
      refine (nodeI_ok b _ _ d1 g1 (by omega) (by omega)).mono ?_
      rintro e w3 ⟨he, rfl⟩
      obtain rfl : e = .returned (.bool true) := he.trans (by rw [decide_eq_true (by omega)])
      clear he
      go_wp2_with fail
      generalize w2.setCell ⟨b, 1, none⟩ (.int .i64 ((S.left : Int) - 1)) = W3 at O3 T3 S3 B3 K3 x3 hxW3 ⊢
      have O3 := hid O3
      have T3 := hid T3
      have S3 := hid S3
      have B3 := hid B3
      have K3 := hid K3
      clear d1 g1 O2 T2 S2
      have c0 := O3.out.cellAt 0 (by omega)
      have c1 := O3.out.cellAt 1 (by omega)
      have c2 := O3.out.cellAt 2 (by omega)
      have c3 := O3.out.cellAt 3 (by omega)
      have c4 := O3.out.cellAt 4 (by omega)
      have c5 := O3.out.cellAt 5 (by omega)
      have f0 := O3.out.frozenAt 0
      have f1 := O3.out.frozenAt 1
      have f2 := O3.out.frozenAt 2
      have f3 := O3.out.frozenAt 3
      have f4 := O3.out.frozenAt 4
      have f5 := O3.out.frozenAt 5
      simp only [List.getElem?_cons_zero, List.getElem?_cons_succ] at c0 c1 c2 c3 c4 c5
      have hbW3 : b < W3.heap.size := (O3.out.lt b rfl).2
      have hneb : (Value.slice (some ⟨b, 0, none⟩) 1 1).ownBlock ≠ (Value.slice At t.length ct).ownBlock := fun e => by
        have := (T3.out.lt b e.symm).1
        omega
      have hpos : ∀ A9 : Option Addr, ∀ c9 n : Nat, ((Value.slice A9 n c9).ownBlock = (Value.slice At t.length ct).ownBlock ∨ ∃ g, (Value.slice A9 n c9).ownBlock = some g ∧ W3.heap.size ≤ g) → (Value.slice Ab S.best.length cb).ownBlock = none ∨ (Value.slice Ab S.best.length cb).ownBlock ≠ (Value.slice A9 n c9).ownBlock := fun A9 c9 n h => by
        rcases h with h | ⟨g, h, hg⟩
        · rw [h]; exact HP.out
        · cases hb : (Value.slice Ab S.best.length cb).ownBlock with
          | none => exact .inl rfl
          | some g2 =>
            refine .inr (fun e => ?_)
            have := (S3.out.lt g2 hb).2
            rw [h] at e
            injection e with e
            omega
      have HPO := hid hpos
      clear hpos
      obtain ⟨i0, hi, hz0, hz1, hz2⟩ := info_parts infoI
      obtain ⟨v9, w9, hr9, hown9, hgr9, -, hbk9⟩ := run_append_own_at (P := Try.prog) (w := (W3.alloc (.cells #[.int .i64 (k : Int)] 2)).drew) (b + 1) 24 24 2 i0 (.int .i64 0) 1 8 Try.underlying24 hi hz0 hz1 hz2 rfl (by decide) (.slice At t.length ct) t.length (tV t) (T3.out.alloc _) ⟨W3.heap.size, 0, none⟩ 1 1 [.int .i64 (k : Int)] rfl (by
        intro j u hu
        cases j with
        | zero =>
          simp at hu
          subst hu
          have h9 : ((W3.alloc (.cells #[.int .i64 (k : Int)] 2)).drew).cell? ⟨W3.heap.size, 0, none⟩ = some (.int .i64 (k : Int)) := by
            show (W3.alloc (.cells #[.int .i64 (k : Int)] 2)).cell? ⟨W3.heap.size, 0, none⟩ = _
            rw [cell_of_row _ _ _ _ _ _ (heap_alloc_new W3 _)]
            rfl
          have hadd : (⟨W3.heap.size, 0, none⟩ : Addr).add 0 = ⟨W3.heap.size, 0, none⟩ := by unfold Addr.add; split <;> simp_all
          rw [hadd]
          exact h9
        | succ j => simp at hu) (by simp [Value.oneCell']) (by unfold maxLen; omega) (by omega) (by show b + 1 ≤ (W3.alloc _).heap.size; simp; omega)
      obtain ⟨A9, c9, rfl⟩ := own_sliceV hown9
      have hsz9 : ((W3.alloc (.cells #[.int .i64 (k : Int)] 2)).drew).heap.size = W3.heap.size + 1 := by show (W3.alloc _).heap.size = _; simp
      have O9 := hid (World.ownsRow.kept (w := ((W3.alloc (.cells #[.int .i64 (k : Int)] 2)).drew)) (O3.out.alloc (.cells #[.int .i64 (k : Int)] 2)) hgr9 (.inr hneb))
      have S9 := hid (World.ownsRow.kept (w := ((W3.alloc (.cells #[.int .i64 (k : Int)] 2)).drew)) (S3.out.alloc (.cells #[.int .i64 (k : Int)] 2)) hgr9 HP.out)
      have x9 := hgr9.cell (a := ⟨w.heap.size, 4, none⟩) (show ((W3.alloc (.cells #[.int .i64 (k : Int)] 2)).drew).cell? ⟨w.heap.size, 4, none⟩ = some (.int .i64 xs[k].fTrust) from cell?_alloc_old (.cells #[.int .i64 (k : Int)] 2) x3) (fun e => hTt e.symm)
      have N9 := hid (show w9.ownsRow (b + 1) 2 1 (.slice A9 (t.length + 1) c9) (t.length + 1) (tV (t ++ [k])) by rw [tV_app]; exact hown9)
      have BA := (B3.out.alloc (Nat.le_of_lt hbW3) (.cells #[.int .i64 (k : Int)] 2)).drew
      have B9 := hid (show Below b w0 w9 from BA.grown hgr9 (by rw [hsz9]; omega) (fun g hg => Nat.le_of_succ_le (T3.out.lt g hg).1))
      have K9 := hid (kept_app (wr := ((W3.alloc (.cells #[.int .i64 (k : Int)] 2)).drew)) (x := .int .i64 (s + xs[k].fTrust)) c2 (fun g hg => heap_alloc_old W3 _ hg) (by rw [hsz9]; omega) hgr9 hbk9 (by rw [O9.out.cellAt 2 (by omega)]; rfl))
      have P9 := hid (HPO.out A9 c9 (t.length + 1) (hbk9.imp id (fun h => ⟨_, h, by rw [hsz9]; omega⟩)))
      have g0 := O9.out.cellAt 0 (by omega)
      have g2 := O9.out.cellAt 2 (by omega)
      have g3 := O9.out.cellAt 3 (by omega)
      have e2 := O9.out.frozenAt 2
      have e3 := O9.out.frozenAt 3
      simp only [List.getElem?_cons_zero, List.getElem?_cons_succ] at g0 g2 g3
      have T9 := hid hTt
      clear hown9 hgr9 hbk9 hi hz0 hz1 hz2 hsz9 BA hneb hTt
      apply wp_post (R := fun w' => (Below b w0 w' ∧ Kept b W3 w') ∧ TruAt b (.slice (some ⟨ab, ao, none⟩) xs.length c) ((S.left - 1 : Nat) : Int) S.best S.most (t ++ [k]) (s + xs[k].fTrust) w')
      · go_region
        all_goals first
          | exact ⟨rfl, ⟨(B9.out.setCell (p := ⟨b, 2, none⟩) (Nat.le_refl _) _).setCell (p := ⟨b, 3, none⟩) (Nat.le_refl _) _, K9.out.1⟩, (take_at O9.out N9.out S9.out P9.out).1⟩
          | exact ⟨rfl, ⟨(B9.out.setCell (p := ⟨b, 3, none⟩) (Nat.le_refl _) _).setCell (p := ⟨b, 2, none⟩) (Nat.le_refl _) _, K9.out.2⟩, (take_at O9.out N9.out S9.out P9.out).2⟩
      · rintro wA ⟨⟨hb9, hk9⟩, hst9⟩
        have HT3 := hid (show takenB b W3 ≠ some w.heap.size by rw [takenB_of c2]; exact T9.out)
        have HK9 := hid hk9
        have hlen : (t ++ [k]).length ≤ k + 1 := by rw [List.length_append, List.length_singleton]; omega
        have HMEM := hid (show ∀ i ∈ t ++ [k], i < xs.length from fun i hi => by
          rw [List.mem_append, List.mem_singleton] at hi
          rcases hi with hi | hi
          · exact HI.out i hi
          · omega)
        have HS1 := hid (show truOf xs k = xs[k].fTrust from truOf_at hk)
        clear hk9 c0 c1 c2 c3 c4 c5 f0 f1 f2 f3 f4 f5 g0 g2 g3 e2 e3 x9 hr9
        go_wp2_with fail
        refine (HIH.out (t ++ [k]) (s + xs[k].fTrust) ⟨S.left - 1, S.best, S.most⟩ wA HMEM.out hlen (by omega) (by omega) (by simp only; omega) hb9 hst9).mono ?_
        rintro e w10 ⟨⟨hb10, hk10⟩, hr⟩
        clear hb9 hst9
        cases hq : srchT xs m (k + 1) (t ++ [k]) (s + xs[k].fTrust) ⟨S.left - 1, S.best, S.most⟩ with
        | none =>
          rw [hq] at hr
          obtain ⟨rfl, best2, most2, hst10⟩ := hr
          have HE := hid (show srchT xs (m + 1) k t s S = none by rw [HRf.out, HN1.out, HS1.out, Option.bind_some, hq]; rfl)
          clear hq
          obtain ⟨Ata, cta, Aba, cba, hoa, hta, hsa, hapa⟩ := hst10
          obtain ⟨g10, cg, hv10, -, -, -⟩ := own_form hta (by simp)
          injection hv10 with a1 a2 a3
          subst a1 a3
          have OA := hid hoa
          have TA := hid hta
          have SA := hid hsa
          have PA := hid hapa
          have hcp := own_capP hta
          rw [List.length_append, List.length_singleton] at hcp
          have HK10 := hid (K3.out.trans (HK9.out.trans hk10))
          have HB10 := hid hb10
          have xt := Kept.cell (HK9.out.trans hk10) hxW3 hxb HT3.out x3
          clear hoa hta hsa hapa hk10 hb10
          have hoc2 : w10.cell? ⟨b, 2, none⟩ = some (.slice (some ⟨g10, 0, none⟩) (t ++ [k]).length cta) := OA.out.cellAt 2 (by omega)
          have hoc3 : ∀ v : Value, (w10.setCell ⟨b, 3, none⟩ v).cell? ⟨b, 2, none⟩ = some (.slice (some ⟨g10, 0, none⟩) (t ++ [k]).length cta) := fun v => by
            have h9 : (w10.setCell ⟨b, 3, none⟩ v).cell? ⟨b, 2, none⟩ = w10.cell? ⟨b, 2, none⟩ := by apply World.cell?_setCell_other; intro e; injection e with _ e; exact absurd e (by decide)
            rw [h9]; exact hoc2
          have KST := hid (show Kept b w10 ((w10.setCell ⟨b, 2, none⟩ (.slice (some ⟨g10, 0, none⟩) t.length cta)).setCell ⟨b, 3, none⟩ (.int .i64 s)) from (Kept.store2 (v := .slice (some ⟨g10, 0, none⟩) t.length cta) hoc2 rfl).trans (Kept.store (i := 3) (by decide)))
          have KST2 := hid (show Kept b w10 ((w10.setCell ⟨b, 3, none⟩ (.int .i64 s)).setCell ⟨b, 2, none⟩ (.slice (some ⟨g10, 0, none⟩) t.length cta)) from (Kept.store (i := 3) (by decide)).trans (Kept.store2 (v := .slice (some ⟨g10, 0, none⟩) t.length cta) (hoc3 _) rfl))
          clear hoc2 hoc3
          have c0 := OA.out.cellAt 0 (by omega)
          have c1 := OA.out.cellAt 1 (by omega)
          have c2 := OA.out.cellAt 2 (by omega)
          have c3 := OA.out.cellAt 3 (by omega)
          have c4 := OA.out.cellAt 4 (by omega)
          have c5 := OA.out.cellAt 5 (by omega)
          have f0 := OA.out.frozenAt 0
          have f1 := OA.out.frozenAt 1
          have f2 := OA.out.frozenAt 2
          have f3 := OA.out.frozenAt 3
          have f4 := OA.out.frozenAt 4
          have f5 := OA.out.frozenAt 5
          simp only [List.length_append, List.length_singleton, List.getElem?_cons_zero, List.getElem?_cons_succ] at c0 c1 c2 c3 c4 c5
          have hc0 : ¬ (cta = 0) := by omega
          have ht0 : (0 : Int) ≤ (t.length : Int) := by omega
          have ht1 : (t.length : Int) ≤ (cta : Int) := by omega
          have ht2 : t.length ≤ cta := by omega
          go_wp2_with fail
          apply wp_post (R := fun w' => (Below b w0 w' ∧ Kept b w w') ∧ TruAt b (.slice (some ⟨ab, ao, none⟩) xs.length c) (-1) best2 most2 t s w')
          · go_region
            all_goals first
              | exact ⟨rfl, ⟨((HB10.out.setCell (p := ⟨b, 2, none⟩) (Nat.le_refl _) _).setCell (p := ⟨b, 3, none⟩) (Nat.le_refl _) _).drew, (HK10.out.trans KST.out).drew⟩, (give_at OA.out TA.out SA.out PA.out).1.drew⟩
              | exact ⟨rfl, ⟨((HB10.out.setCell (p := ⟨b, 3, none⟩) (Nat.le_refl _) _).setCell (p := ⟨b, 2, none⟩) (Nat.le_refl _) _).drew, (HK10.out.trans KST2.out).drew⟩, (give_at OA.out TA.out SA.out PA.out).2.drew⟩
          · rintro w11 ⟨⟨hb11, hk11⟩, hst11⟩
            clear c0 c1 c2 c3 c4 c5 f0 f1 f2 f3 f4 f5 xt
            go_wp2_with fail
            go_ret
            refine ⟨⟨hb11, hk11⟩, ?_⟩
            rw [HE.out]
            exact ⟨rfl, best2, most2, hst11⟩
        | some S2 =>
          rw [hq] at hr
          obtain ⟨rfl, hl2, hst10⟩ := hr
          have HR := hid (show srchT xs (m + 1) k t s S = (nodeT S2).bind fun S3 => srchT xs m (k + 1) t s S3 by rw [HRf.out, HN1.out, HS1.out, Option.bind_some, hq]; rfl)
          clear hq
          obtain ⟨Ata, cta, Aba, cba, hoa, hta, hsa, hapa⟩ := hst10
          obtain ⟨g10, cg, hv10, -, -, -⟩ := own_form hta (by simp)
          injection hv10 with a1 a2 a3
          subst a1 a3
          have OA := hid hoa
          have TA := hid hta
          have SA := hid hsa
          have PA := hid hapa
          have hcp := own_capP hta
          rw [List.length_append, List.length_singleton] at hcp
          have HK10 := hid (K3.out.trans (HK9.out.trans hk10))
          have HB10 := hid hb10
          have xt := Kept.cell (HK9.out.trans hk10) hxW3 hxb HT3.out x3
          clear hoa hta hsa hapa hk10 hb10
          have hoc2 : w10.cell? ⟨b, 2, none⟩ = some (.slice (some ⟨g10, 0, none⟩) (t ++ [k]).length cta) := OA.out.cellAt 2 (by omega)
          have hoc3 : ∀ v : Value, (w10.setCell ⟨b, 3, none⟩ v).cell? ⟨b, 2, none⟩ = some (.slice (some ⟨g10, 0, none⟩) (t ++ [k]).length cta) := fun v => by
            have h9 : (w10.setCell ⟨b, 3, none⟩ v).cell? ⟨b, 2, none⟩ = w10.cell? ⟨b, 2, none⟩ := by apply World.cell?_setCell_other; intro e; injection e with _ e; exact absurd e (by decide)
            rw [h9]; exact hoc2
          have KST := hid (show Kept b w10 ((w10.setCell ⟨b, 2, none⟩ (.slice (some ⟨g10, 0, none⟩) t.length cta)).setCell ⟨b, 3, none⟩ (.int .i64 s)) from (Kept.store2 (v := .slice (some ⟨g10, 0, none⟩) t.length cta) hoc2 rfl).trans (Kept.store (i := 3) (by decide)))
          have KST2 := hid (show Kept b w10 ((w10.setCell ⟨b, 3, none⟩ (.int .i64 s)).setCell ⟨b, 2, none⟩ (.slice (some ⟨g10, 0, none⟩) t.length cta)) from (Kept.store (i := 3) (by decide)).trans (Kept.store2 (v := .slice (some ⟨g10, 0, none⟩) t.length cta) (hoc3 _) rfl))
          clear hoc2 hoc3
          have c0 := OA.out.cellAt 0 (by omega)
          have c1 := OA.out.cellAt 1 (by omega)
          have c2 := OA.out.cellAt 2 (by omega)
          have c3 := OA.out.cellAt 3 (by omega)
          have c4 := OA.out.cellAt 4 (by omega)
          have c5 := OA.out.cellAt 5 (by omega)
          have f0 := OA.out.frozenAt 0
          have f1 := OA.out.frozenAt 1
          have f2 := OA.out.frozenAt 2
          have f3 := OA.out.frozenAt 3
          have f4 := OA.out.frozenAt 4
          have f5 := OA.out.frozenAt 5
          simp only [List.length_append, List.length_singleton, List.getElem?_cons_zero, List.getElem?_cons_succ] at c0 c1 c2 c3 c4 c5
          have hc0 : ¬ (cta = 0) := by omega
          have ht0 : (0 : Int) ≤ (t.length : Int) := by omega
          have ht1 : (t.length : Int) ≤ (cta : Int) := by omega
          have ht2 : t.length ≤ cta := by omega
          go_wp2_with fail
          apply wp_post (R := fun w' => (Below b w0 w' ∧ Kept b w w') ∧ TruAt b (.slice (some ⟨ab, ao, none⟩) xs.length c) (S2.left : Int) S2.best S2.most t s w')
          · go_region
            all_goals first
              | exact ⟨rfl, ⟨((HB10.out.setCell (p := ⟨b, 2, none⟩) (Nat.le_refl _) _).setCell (p := ⟨b, 3, none⟩) (Nat.le_refl _) _).drew, (HK10.out.trans KST.out).drew⟩, (give_at OA.out TA.out SA.out PA.out).1.drew⟩
              | exact ⟨rfl, ⟨((HB10.out.setCell (p := ⟨b, 3, none⟩) (Nat.le_refl _) _).setCell (p := ⟨b, 2, none⟩) (Nat.le_refl _) _).drew, (HK10.out.trans KST2.out).drew⟩, (give_at OA.out TA.out SA.out PA.out).2.drew⟩
          · rintro w11 ⟨⟨hb11, hk11⟩, hst11⟩
            clear c0 c1 c2 c3 c4 c5 f0 f1 f2 f3 f4 f5 xt
            have ST2 := hid hst11
            have B2 := hid hb11
            have K2 := hid hk11
            clear hst11 hb11 hk11
            have HNB := hid (ST2.out)
            obtain ⟨At2, ct2, Ab2, cb2, ho2, ht2, hs2, hap2⟩ := ST2.out
            have d1 := ho2.cellAt 1 (by omega)
            have g1 := ho2.frozenAt 1
            simp only [List.getElem?_cons_zero, List.getElem?_cons_succ] at d1
            clear ho2 ht2 hs2 hap2
            by_cases hl0 : S2.left = 0
            · have HE := hid (show srchT xs (m + 1) k t s S = none by rw [HR.out, nodeT, if_pos hl0]; rfl)
              have HL := hid hl0
              go_wp2_with fail
              refine (nodeI_ok b _ _ d1 g1 (by omega) (by omega)).mono ?_
              rintro e w3 ⟨he, rfl⟩
              obtain rfl : e = .returned (.bool false) := he.trans (by rw [HL.out]; rfl)
              clear he
              go_wp2_with fail
              go_ret
              refine ⟨⟨B2.out.setCell (p := ⟨b, 1, none⟩) (Nat.le_refl _) _, K2.out.trans (Kept.store (by decide))⟩, ?_⟩
              rw [HE.out]
              refine ⟨rfl, S2.best, S2.most, ?_⟩
              have h9 := node_at HNB.out
              have e9 : (S2.left : Int) - 1 = -1 := by rw [HL.out]; rfl
              rw [e9] at h9
              first | exact h9 | (rw [e9]; exact h9)
            · have hl1 : 1 ≤ S2.left := by omega
              have HE := hid (show srchT xs (m + 1) k t s S = srchT xs m (k + 1) t s ⟨S2.left - 1, S2.best, S2.most⟩ by rw [HR.out, nodeT, if_neg hl0]; rfl)
              have hcast : ((S2.left - 1 : Nat) : Int) = (S2.left : Int) - 1 := by omega
              have N3 := hid (show TruAt b (.slice (some ⟨ab, ao, none⟩) xs.length c) ((S2.left - 1 : Nat) : Int) S2.best S2.most t s (w11.setCell ⟨b, 1, none⟩ (.int .i64 ((S2.left : Int) - 1))) by rw [hcast]; exact node_at HNB.out)
              go_wp2_with fail
              refine (nodeI_ok b _ _ d1 g1 (by omega) (by omega)).mono ?_
              rintro e w3 ⟨he, rfl⟩
              obtain rfl : e = .returned (.bool true) := he.trans (by rw [decide_eq_true (by omega)])
              clear he
              go_wp2_with fail
              refine (HIH.out t s ⟨S2.left - 1, S2.best, S2.most⟩ _ HI.out (by omega) hs0 (by omega) (by simp only; omega) (B2.out.setCell (p := ⟨b, 1, none⟩) (Nat.le_refl _) _) N3.out).mono ?_
              rintro e w4 ⟨⟨hb4, hk4⟩, hr⟩
              rw [← HE.out] at hr
              have HB4 := hid (show Below b w0 w4 ∧ Kept b w w4 from ⟨hb4, (K2.out.trans (Kept.store (by decide))).trans hk4⟩)
              cases hq : srchT xs (m + 1) k t s S
              · rw [hq] at hr
                obtain ⟨rfl, hr2⟩ := hr
                go_wp2_with fail
                go_ret
                refine ⟨HB4.out, ?_⟩
                rw [hq]
                exact ⟨rfl, hr2⟩
              · rw [hq] at hr
                obtain ⟨rfl, hr2⟩ := hr
                go_wp2_with fail
                go_ret
                refine ⟨HB4.out, ?_⟩
                rw [hq]
                exact ⟨rfl, hr2⟩
end Go.Proofs.Ytdbjbkdcmhekfaa
