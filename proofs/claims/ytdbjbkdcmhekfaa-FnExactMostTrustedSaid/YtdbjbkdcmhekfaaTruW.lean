/- MostTrusted: the program's search: the leaf, and a paper that clashes. -/
import Derived.Test.YtdbjbkdcmhekfaaTruV
namespace Go.Proofs.Ytdbjbkdcmhekfaa
open Go.RowKit
set_option linter.unusedVariables false

set_option maxHeartbeats 3200000 in
set_option maxRecDepth 100000 in
theorem search_leaf (xs : List DPaper) (A : Option Addr) (c b : Nat) (w0 : World) (t : List Nat) (s left : Int) (best : List Nat) (most : Int) (w : World) (hn : xs.length ≤ 1048576) (htl : t.length ≤ 1048576) (hbl : Below b w0 w) (hst : TruAt b (.slice A xs.length c) left best most t s w) :
    Calls Try.prog 74 #[.pointer (some ⟨b, 0, none⟩), .int .i64 (xs.length : Int)] w fun e w' => (Below b w0 w' ∧ Kept b w w') ∧ e = .returned (.bool true) ∧ ((most < s → TruAt b (.slice A xs.length c) left t s t s w') ∧ (¬ most < s → TruAt b (.slice A xs.length c) left best most t s w')) := by
  obtain ⟨At, ct, Ab, cb, ho, htk, hbs, hap⟩ := hst
  have HO := hid ho
  have HT := hid htk
  have HS := hid hbs
  have HP := hid hap
  have HB := hid hbl
  clear ho htk hbs hap hbl
  have c0 := HO.out.cellAt 0 (by omega)
  have c1 := HO.out.cellAt 1 (by omega)
  have c2 := HO.out.cellAt 2 (by omega)
  have c3 := HO.out.cellAt 3 (by omega)
  have c4 := HO.out.cellAt 4 (by omega)
  have c5 := HO.out.cellAt 5 (by omega)
  have f0 := HO.out.frozenAt 0
  have f1 := HO.out.frozenAt 1
  have f2 := HO.out.frozenAt 2
  have f3 := HO.out.frozenAt 3
  have f4 := HO.out.frozenAt 4
  have f5 := HO.out.frozenAt 5
  simp only [List.getElem?_cons_zero, List.getElem?_cons_succ] at c0 c1 c2 c3 c4 c5
  by_cases hlt : most < s
  · have HL := hid hlt
    go_enter Try.func74, Try.ntmps74
    go_wp2_with fail
    go_quiet (fail)
    go_wp2_with fail
    have OQ := (show (w.drewN nq).ownsRow b 105 6 (.slice (some ⟨b, 0, none⟩) 1 1) 1 [.slice A xs.length c, .int .i64 left, .slice At t.length ct, .int .i64 s, .slice Ab best.length cb, .int .i64 most] from HO.out)
    have TQ := (show (w.drewN nq).ownsRow (b + 1) 2 1 (.slice At t.length ct) t.length (tV t) from HT.out)
    have BQ := below_drewN' HB.out nq
    have KQ := Kept.of_below (HO.out.lt b rfl).2 (below_drewN' (Below.refl w.heap.size w) nq)
    clear c0 c1 c2 c3 c4 c5 f0 f1 f2 f3 f4 f5
    generalize w.drewN nq = W at OQ TQ BQ KQ ⊢
    have KQ := hid KQ
    have OQ := hid OQ
    have TQ := hid TQ
    have BQ := hid BQ
    have c0 := OQ.out.cellAt 0 (by omega)
    have c1 := OQ.out.cellAt 1 (by omega)
    have c2 := OQ.out.cellAt 2 (by omega)
    have c3 := OQ.out.cellAt 3 (by omega)
    have c4 := OQ.out.cellAt 4 (by omega)
    have c5 := OQ.out.cellAt 5 (by omega)
    have f0 := OQ.out.frozenAt 0
    have f1 := OQ.out.frozenAt 1
    have f2 := OQ.out.frozenAt 2
    have f3 := OQ.out.frozenAt 3
    have f4 := OQ.out.frozenAt 4
    have f5 := OQ.out.frozenAt 5
    simp only [List.getElem?_cons_zero, List.getElem?_cons_succ] at c0 c1 c2 c3 c4 c5
    apply wp_post2 (α := Option Addr) (β := Nat) (R := fun w' => (Below b w0 w' ∧ Kept b w w') ∧ TruAt b (.slice A xs.length c) left t s t s w')
    · go_region_with (first | (go_at_call 137; refine (cloneT_ok At ct t _ (B := b + 1) (show W.drew.ownsRow (b + 1) 2 1 (.slice At t.length ct) t.length (tV t) from TQ.out) htl).mono ?_; rintro e w3 ⟨A3, c3', rfl, ho3, hb3⟩; have O3 := hid (own_below (show W.drew.ownsRow b 105 6 (.slice (some ⟨b, 0, none⟩) 1 1) 1 [.slice A xs.length c, .int .i64 left, .slice At t.length ct, .int .i64 s, .slice Ab best.length cb, .int .i64 most] from OQ.out) hb3); have T3 := hid (own_below (show W.drew.ownsRow (b + 1) 2 1 (.slice At t.length ct) t.length (tV t) from TQ.out) hb3); have B3 := hid (below_up BQ.out.drew (Nat.le_of_lt (OQ.out.lt b rfl).2) hb3); have N3 := hid ho3; have K3 := hid (KQ.out.trans (Kept.of_below (OQ.out.lt b rfl).2 ((Below.refl W.heap.size W).drew.trans hb3))); have c0 := O3.out.cellAt 0 (by omega); have c1 := O3.out.cellAt 1 (by omega); have c2 := O3.out.cellAt 2 (by omega); have c3 := O3.out.cellAt 3 (by omega); have c4 := O3.out.cellAt 4 (by omega); have c5 := O3.out.cellAt 5 (by omega); have f0 := O3.out.frozenAt 0; have f1 := O3.out.frozenAt 1; have f2 := O3.out.frozenAt 2; have f3 := O3.out.frozenAt 3; have f4 := O3.out.frozenAt 4; have f5 := O3.out.frozenAt 5; simp only [List.getElem?_cons_zero, List.getElem?_cons_succ] at c0 c1 c2 c3 c4 c5; clear ho3 hb3))
      all_goals first
        | exact ⟨A3, c3', rfl, ⟨(B3.out.setCell (p := ⟨b, 4, none⟩) (Nat.le_refl _) _).setCell (p := ⟨b, 5, none⟩) (Nat.le_refl _) _, (K3.out.trans (Kept.store (by decide))).trans (Kept.store (by decide))⟩, (leaf_at O3.out T3.out TQ.out N3.out (OQ.out.lt b rfl).2).1⟩
        | exact ⟨A3, c3', rfl, ⟨(B3.out.setCell (p := ⟨b, 5, none⟩) (Nat.le_refl _) _).setCell (p := ⟨b, 4, none⟩) (Nat.le_refl _) _, (K3.out.trans (Kept.store (by decide))).trans (Kept.store (by decide))⟩, (leaf_at O3.out T3.out TQ.out N3.out (OQ.out.lt b rfl).2).2⟩
    · rintro _ _ w' ⟨hb, ht⟩
      go_wp2_with fail
      go_ret
      exact ⟨hb, rfl, by first | exact ⟨fun _ => ht, fun h => absurd HL.out h⟩ | exact ⟨ht, fun h => absurd h (by have := HL.out; omega)⟩⟩
  · have HL := hid hlt
    go_enter Try.func74, Try.ntmps74
    go_wp2_with fail
    go_quiet (fail)
    go_wp2_with fail
    go_ret
    exact ⟨⟨below_drewN' HB.out _, Kept.of_below (HO.out.lt b rfl).2 (below_drewN' (Below.refl w.heap.size w) _)⟩, rfl, by first | exact ⟨fun h => absurd h (by have := HL.out; omega), fun _ => ⟨At, ct, Ab, cb, HO.out, HT.out, HS.out, HP.out⟩⟩ | exact ⟨fun h => absurd h (by have := HL.out; omega), ⟨At, ct, Ab, cb, HO.out, HT.out, HS.out, HP.out⟩⟩⟩

theorem clAny_eq {xs : List DPaper} {t : List Nat} {k : Nat} (hk : k < xs.length) : (t.any fun i => match xs[i]? with | some y => clashB y xs[k] | none => false) = clAny xs t k := by
  unfold clAny
  congr 1
  funext i
  unfold clI
  rw [List.getElem?_eq_getElem hk]
  cases xs[i]? <;> rfl

set_option maxHeartbeats 6400000 in
set_option maxRecDepth 100000 in
theorem search_clash (xs : List DPaper) (A : Option Addr) (c b : Nat) (w0 : World) (hA : RowsAt w0 5 A (xs.map DPaper.cells)) (hb0 : b = w0.heap.size) (hP : ∀ x ∈ xs, x.fEarly ≤ x.fLate ∧ 0 ≤ x.fTrust ∧ x.fTrust ≤ 1000) (hn : xs.length ≤ 1000) (m k : Nat) (hk : k < xs.length)
    (ih : ∀ (t : List Nat) (s : Int) (S : WS) (w : World), (∀ i ∈ t, i < xs.length) → t.length ≤ k + 1 → 0 ≤ s → s ≤ 1000 * ((k : Int) + 1) → S.left ≤ 20000 → Below b w0 w → TruAt b (.slice A xs.length c) (S.left : Int) S.best S.most t s w → Calls Try.prog 74 #[.pointer (some ⟨b, 0, none⟩), .int .i64 ((k : Int) + 1)] w (SPost b w0 w (.slice A xs.length c) (srchT xs m (k + 1) t s S) t s))
    (t : List Nat) (s : Int) (S : WS) (w : World) (ht : ∀ i ∈ t, i < xs.length) (htl : t.length ≤ k) (hs0 : 0 ≤ s) (hs1 : s ≤ 1000 * (k : Int)) (hl : S.left ≤ 20000) (hbl : Below b w0 w) (hst : TruAt b (.slice A xs.length c) (S.left : Int) S.best S.most t s w) (hz : clAny xs t k = true) :
    Calls Try.prog 74 #[.pointer (some ⟨b, 0, none⟩), .int .i64 (k : Int)] w (SPost b w0 w (.slice A xs.length c) (srchT xs (m + 1) k t s S) t s) := by
  obtain ⟨At, ct, Ab, cb, ho, htk, hbs, hap⟩ := hst
  have HO := hid ho
  have HT := hid htk
  have HS := hid hbs
  have HP := hid hap
  have HB := hid hbl
  have HIH := hid ih
  have HI := hid ht
  have HPP := hid hP
  have HZ := hid hz
  have HAA := hid hA
  obtain ⟨ab, ao, rfl, hlt, hc⟩ := (hA.below (show Below w0.heap.size w0 w by rw [← hb0]; exact hbl)) (by intro e; rw [List.map_eq_nil_iff] at e; rw [e] at hk; exact absurd hk (by simp))
  have x0 : w.cell? ⟨ab, ao + k * 5, none⟩ = some (.string xs[k].fId) := hc k _ (by rw [List.getElem?_map, List.getElem?_eq_getElem hk]; rfl) 0 _ rfl
  have x1 : w.cell? ⟨ab, ao + k * 5 + 1, none⟩ = some (.string xs[k].fMaker) := hc k _ (by rw [List.getElem?_map, List.getElem?_eq_getElem hk]; rfl) 1 _ rfl
  have x2 : w.cell? ⟨ab, ao + k * 5 + 2, none⟩ = some (.int .i64 xs[k].fEarly) := hc k _ (by rw [List.getElem?_map, List.getElem?_eq_getElem hk]; rfl) 2 _ rfl
  have x3 : w.cell? ⟨ab, ao + k * 5 + 3, none⟩ = some (.int .i64 xs[k].fLate) := hc k _ (by rw [List.getElem?_map, List.getElem?_eq_getElem hk]; rfl) 3 _ rfl
  have x4 : w.cell? ⟨ab, ao + k * 5 + 4, none⟩ = some (.int .i64 xs[k].fTrust) := hc k _ (by rw [List.getElem?_map, List.getElem?_eq_getElem hk]; rfl) 4 _ rfl
  have q0 : (0 : Int) ≤ (k : Int) := by omega
  have q1 : (k : Int) < xs.length := by omega
  have q2 : ((k : Int) == (xs.length : Int)) = false := by rw [beq_eq_false_iff_ne]; omega
  have HB0 := hid hb0
  have hbw : b < w.heap.size := (HO.out.lt b rfl).2
  clear ho htk hbs hap hbl ih ht hP hz hA hc hb0
  have c0 := HO.out.cellAt 0 (by omega)
  have c1 := HO.out.cellAt 1 (by omega)
  have c2 := HO.out.cellAt 2 (by omega)
  have c3 := HO.out.cellAt 3 (by omega)
  have c4 := HO.out.cellAt 4 (by omega)
  have c5 := HO.out.cellAt 5 (by omega)
  have f0 := HO.out.frozenAt 0
  have f1 := HO.out.frozenAt 1
  have f2 := HO.out.frozenAt 2
  have f3 := HO.out.frozenAt 3
  have f4 := HO.out.frozenAt 4
  have f5 := HO.out.frozenAt 5
  simp only [List.getElem?_cons_zero, List.getElem?_cons_succ] at c0 c1 c2 c3 c4 c5
  go_enter Try.func74, Try.ntmps74
  go_wp2_with fail
  go_region
  have OQ := (show ((w.alloc (.cells #[.string xs[k].fId, .string xs[k].fMaker, .int .i64 xs[k].fEarly, .int .i64 xs[k].fLate, .int .i64 xs[k].fTrust] 101)).drew).ownsRow b 105 6 (.slice (some ⟨b, 0, none⟩) 1 1) 1 [.slice (some ⟨ab, ao, none⟩) xs.length c, .int .i64 (S.left : Int), .slice At t.length ct, .int .i64 s, .slice Ab S.best.length cb, .int .i64 S.most] from HO.out.alloc _)
  have TQ := (show ((w.alloc (.cells #[.string xs[k].fId, .string xs[k].fMaker, .int .i64 xs[k].fEarly, .int .i64 xs[k].fLate, .int .i64 xs[k].fTrust] 101)).drew).ownsRow (b + 1) 2 1 (.slice At t.length ct) t.length (tV t) from HT.out.alloc _)
  have SQ := (show ((w.alloc (.cells #[.string xs[k].fId, .string xs[k].fMaker, .int .i64 xs[k].fEarly, .int .i64 xs[k].fLate, .int .i64 xs[k].fTrust] 101)).drew).ownsRow (b + 1) 2 1 (.slice Ab S.best.length cb) S.best.length (tV S.best) from HS.out.alloc _)
  have BQ := (HB.out.alloc (Nat.le_of_lt hbw) (.cells #[.string xs[k].fId, .string xs[k].fMaker, .int .i64 xs[k].fEarly, .int .i64 xs[k].fLate, .int .i64 xs[k].fTrust] 101)).drew
  have XQ := (show HasC ((w.alloc (.cells #[.string xs[k].fId, .string xs[k].fMaker, .int .i64 xs[k].fEarly, .int .i64 xs[k].fLate, .int .i64 xs[k].fTrust] 101)).drew) w.heap.size [.string xs[k].fId, .string xs[k].fMaker, .int .i64 xs[k].fEarly, .int .i64 xs[k].fLate, .int .i64 xs[k].fTrust] from HasC.new w [.string xs[k].fId, .string xs[k].fMaker, .int .i64 xs[k].fEarly, .int .i64 xs[k].fLate, .int .i64 xs[k].fTrust] 101)
  have KQ := Kept.of_below hbw (below_alloc w (.cells #[.string xs[k].fId, .string xs[k].fMaker, .int .i64 xs[k].fEarly, .int .i64 xs[k].fLate, .int .i64 xs[k].fTrust] 101)).drew
  clear c0 c1 c2 c3 c4 c5 f0 f1 f2 f3 f4 f5 x0 x1 x2 x3 x4
  generalize (w.alloc (.cells #[.string xs[k].fId, .string xs[k].fMaker, .int .i64 xs[k].fEarly, .int .i64 xs[k].fLate, .int .i64 xs[k].fTrust] 101)).drew = W at OQ TQ SQ BQ XQ KQ ⊢
  have KQ := hid KQ
  have OQ := hid OQ
  have TQ := hid TQ
  have SQ := hid SQ
  have BQ := hid BQ
  have XQ := hid XQ
  have hbW : b < W.heap.size := (OQ.out.lt b rfl).2
  have hxW : w.heap.size < W.heap.size := XQ.out.1
  have c0 := OQ.out.cellAt 0 (by omega)
  have c1 := OQ.out.cellAt 1 (by omega)
  have c2 := OQ.out.cellAt 2 (by omega)
  have c3 := OQ.out.cellAt 3 (by omega)
  have c4 := OQ.out.cellAt 4 (by omega)
  have c5 := OQ.out.cellAt 5 (by omega)
  have f0 := OQ.out.frozenAt 0
  have f1 := OQ.out.frozenAt 1
  have f2 := OQ.out.frozenAt 2
  have f3 := OQ.out.frozenAt 3
  have f4 := OQ.out.frozenAt 4
  have f5 := OQ.out.frozenAt 5
  simp only [List.getElem?_cons_zero, List.getElem?_cons_succ] at c0 c1 c2 c3 c4 c5
  have x0 := XQ.out.2 0 _ rfl
  have x1 := XQ.out.2 1 _ rfl
  have x2 := XQ.out.2 2 _ rfl
  have x3 := XQ.out.2 3 _ rfl
  have x4 := XQ.out.2 4 _ rfl
  have AQ := hid (HAA.out.below (show Below w0.heap.size w0 W by rw [← HB0.out]; exact BQ.out))
  have hx9 := HPP.out xs[k] (List.getElem_mem hk)
  go_wp2_with fail
  apply wp_post (R := fun w' => Below W.heap.size W w')
  · go_region_with (first | (go_at_call 138; refine (clashesWith_ok xs _ c xs[k] t At ct _ (AQ.out.below (Below.refl _ _).drew) (by omega) (ints_own (show W.drew.ownsRow (b + 1) 2 1 (.slice At t.length ct) t.length (tV t) from TQ.out)) HI.out (by omega) (fun y hy => (HPP.out y hy).1) hx9.1 true ((clAny_eq (t := t) hk).trans HZ.out)).mono ?_; rintro e w3 ⟨rfl, hb3⟩))
    all_goals exact ⟨rfl, (Below.refl W.heap.size W).drew.trans hb3⟩
  · intro w2 hb2
    have ST2 := hid (show TruAt b (.slice (some ⟨ab, ao, none⟩) xs.length c) (S.left : Int) S.best S.most t s w2 from ⟨At, ct, Ab, cb, own_below OQ.out hb2, own_below TQ.out hb2, own_below SQ.out hb2, HP.out⟩)
    have B2 := hid (below_up BQ.out (Nat.le_of_lt hbW) hb2)
    have X2 := hid (XQ.out.below hb2)
    have K2 := hid (KQ.out.trans (Kept.of_below hbW hb2))
    have HR := hid (show srchT xs (m + 1) k t s S = (nodeT S).bind fun S3 => srchT xs m (k + 1) t s S3 by rw [srchT, if_pos HZ.out]; rfl)
    clear hb2
    have HNB := hid (ST2.out)
    obtain ⟨At2, ct2, Ab2, cb2, ho2, ht2, hs2, hap2⟩ := ST2.out
    have d1 := ho2.cellAt 1 (by omega)
    have g1 := ho2.frozenAt 1
    simp only [List.getElem?_cons_zero, List.getElem?_cons_succ] at d1
    clear ho2 ht2 hs2 hap2
    by_cases hl0 : S.left = 0
    · have HE := hid (show srchT xs (m + 1) k t s S = none by rw [HR.out, nodeT, if_pos hl0]; rfl)
      have HL := hid hl0
      go_wp2_with fail
      refine (nodeI_ok b _ _ d1 g1 (by omega) (by omega)).mono ?_
      rintro e w3 ⟨he, rfl⟩
      obtain rfl : e = .returned (.bool false) := he.trans (by rw [HL.out]; rfl)
      clear he
      go_wp2_with fail
      go_ret
      refine ⟨⟨B2.out.setCell (p := ⟨b, 1, none⟩) (Nat.le_refl _) _, K2.out.trans (Kept.store (by decide))⟩, ?_⟩
      rw [HE.out]
      refine ⟨rfl, S.best, S.most, ?_⟩
      have h9 := node_at HNB.out
      have e9 : (S.left : Int) - 1 = -1 := by rw [HL.out]; rfl
      rw [e9] at h9
      first | exact h9 | (rw [e9]; exact h9)
    · have hl1 : 1 ≤ S.left := by omega
      have HE := hid (show srchT xs (m + 1) k t s S = srchT xs m (k + 1) t s ⟨S.left - 1, S.best, S.most⟩ by rw [HR.out, nodeT, if_neg hl0]; rfl)
      have hcast : ((S.left - 1 : Nat) : Int) = (S.left : Int) - 1 := by omega
      have N3 := hid (show TruAt b (.slice (some ⟨ab, ao, none⟩) xs.length c) ((S.left - 1 : Nat) : Int) S.best S.most t s (w2.setCell ⟨b, 1, none⟩ (.int .i64 ((S.left : Int) - 1))) by rw [hcast]; exact node_at HNB.out)
      go_wp2_with fail
      refine (nodeI_ok b _ _ d1 g1 (by omega) (by omega)).mono ?_
      rintro e w3 ⟨he, rfl⟩
      obtain rfl : e = .returned (.bool true) := he.trans (by rw [decide_eq_true (by omega)])
      clear he
      go_wp2_with fail
      refine (HIH.out t s ⟨S.left - 1, S.best, S.most⟩ _ HI.out (by omega) hs0 (by omega) (by simp only; omega) (B2.out.setCell (p := ⟨b, 1, none⟩) (Nat.le_refl _) _) N3.out).mono ?_
      rintro e w4 ⟨⟨hb4, hk4⟩, hr⟩
      rw [← HE.out] at hr
      have HB4 := hid (show Below b w0 w4 ∧ Kept b w w4 from ⟨hb4, (K2.out.trans (Kept.store (by decide))).trans hk4⟩)
      cases hq : srchT xs (m + 1) k t s S
      · rw [hq] at hr
        obtain ⟨rfl, hr2⟩ := hr
        go_wp2_with fail
        go_ret
        refine ⟨HB4.out, ?_⟩
        rw [hq]
        exact ⟨rfl, hr2⟩
      · rw [hq] at hr
        obtain ⟨rfl, hr2⟩ := hr
        go_wp2_with fail
        go_ret
        refine ⟨HB4.out, ?_⟩
        rw [hq]
        exact ⟨rfl, hr2⟩
end Go.Proofs.Ytdbjbkdcmhekfaa
