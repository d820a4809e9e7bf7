/- MostTrusted: the reference's search: a paper that clashes. -/
import Derived.Test.YtdbjbkdcmhekfaaTruY
namespace Go.Proofs.Ytdbjbkdcmhekfaa
open Go.RowKit
set_option linter.unusedVariables false

/-- a paper more taken -/
theorem takeR {b k : Nat} {LA : Value} {t best : List Nat} {most nodes bud : Int} {full : Bool} {At Ab A9 : Option Addr} {ct cb c9 : Nat} {w0 w w9 : World} (hO : w.ownsRow b 99 7 (.slice (some ⟨b, 0, none⟩) 1 1) 1 [LA, .slice At t.length ct, .slice Ab best.length cb, .int .i64 most, .int .i64 nodes, .int .i64 bud, .bool full]) (hT : w.ownsRow (b + 1) 2 1 (.slice At t.length ct) t.length (tV t)) (hS : w.ownsRow (b + 1) 2 1 (.slice Ab best.length cb) best.length (tV best)) (hap : (Value.slice Ab best.length cb).ownBlock = none ∨ (Value.slice Ab best.length cb).ownBlock ≠ (Value.slice At t.length ct).ownBlock)
    (hown : w9.ownsRow (b + 1) 2 1 (.slice A9 (t.length + 1) c9) (t.length + 1) (tV t ++ #[.int .i64 (k : Int)].toList)) (hgr : (w.alloc (.cells #[.int .i64 (k : Int)] 2)).grownBy w9 (Value.slice At t.length ct).ownBlock) (hbk : (Value.slice A9 (t.length + 1) c9).ownBlock = (Value.slice At t.length ct).ownBlock ∨ (Value.slice A9 (t.length + 1) c9).ownBlock = some (w.heap.size + 1)) (hbl : Below b w0 w) :
    Below b w0 (w9.setCell ⟨b, 1, none⟩ (.slice A9 (t.length + 1) c9)) ∧ RefAt b LA (t ++ [k]) best most nodes bud full (w9.setCell ⟨b, 1, none⟩ (.slice A9 (t.length + 1) c9)) ∧ w9.cell? ⟨b, 1, none⟩ = some (.slice At t.length ct) ∧ w9.frozen? ⟨b, 1, none⟩ = false := by
  have hbw := (hO.lt b rfl).2
  have hneb : (Value.slice (some ⟨b, 0, none⟩) 1 1).ownBlock ≠ (Value.slice At t.length ct).ownBlock := fun e => by
    have := (hT.lt b e.symm).1
    omega
  have O9 := (hO.alloc (.cells #[.int .i64 (k : Int)] 2)).kept hgr (.inr hneb)
  have S9 := (hS.alloc (.cells #[.int .i64 (k : Int)] 2)).kept hgr hap
  have e : (t ++ [k]).length = t.length + 1 := by simp
  have N9 : w9.ownsRow (b + 1) 2 1 (.slice A9 (t.length + 1) c9) (t.length + 1) (tV (t ++ [k])) := by rw [tV_app]; exact hown
  have BA := hbl.alloc (Nat.le_of_lt hbw) (.cells #[.int .i64 (k : Int)] 2)
  have B9 : Below b w0 w9 := BA.grown hgr (by simp; omega) (fun g hg => Nat.le_of_succ_le (hT.lt g hg).1)
  refine ⟨B9.setCell (p := ⟨b, 1, none⟩) (Nat.le_refl _) _, ?_, O9.cellAt 1 (by omega), O9.frozenAt 1⟩
  unfold RefAt
  rw [e]
  refine ⟨A9, c9, Ab, cb, own_setCells [.slice A9 (t.length + 1) c9] (p := 1) O9, own_apart N9 (by simp) _, own_apart S9 (by simp) _, ?_⟩
  rcases hbk with h | h
  · rw [h]; exact hap
  · cases hb : (Value.slice Ab best.length cb).ownBlock with
    | none => exact .inl rfl
    | some g2 =>
      refine .inr (fun e => ?_)
      have := (hS.lt g2 hb).2
      rw [h] at e
      injection e with e
      omega
/-- .. and cut away again -/
theorem cutR {b k g ct : Nat} {LA : Value} {t best : List Nat} {most nodes bud : Int} {full : Bool} {Ab : Option Addr} {cb : Nat} {w : World} (hO : w.ownsRow b 99 7 (.slice (some ⟨b, 0, none⟩) 1 1) 1 [LA, .slice (some ⟨g, 0, none⟩) (t ++ [k]).length ct, .slice Ab best.length cb, .int .i64 most, .int .i64 nodes, .int .i64 bud, .bool full]) (hT : w.ownsRow (b + 1) 2 1 (.slice (some ⟨g, 0, none⟩) (t ++ [k]).length ct) (t ++ [k]).length (tV (t ++ [k]))) (hS : w.ownsRow (b + 1) 2 1 (.slice Ab best.length cb) best.length (tV best)) (hap : (Value.slice Ab best.length cb).ownBlock = none ∨ (Value.slice Ab best.length cb).ownBlock ≠ (Value.slice (some ⟨g, 0, none⟩) (t ++ [k]).length ct).ownBlock) :
    RefAt b LA t best most nodes bud full (w.setCell ⟨b, 1, none⟩ (.slice (some ⟨g, 0, none⟩) t.length ct)) := by
  have h1 := own_shrink' hT (show t.length ≤ (t ++ [k]).length by simp)
  rw [tV_app, List.take_left' (by rw [tV_len]; omega)] at h1
  exact ⟨some ⟨g, 0, none⟩, ct, Ab, cb, own_setCells [.slice (some ⟨g, 0, none⟩) t.length ct] (p := 1) hO, own_apart h1 (by simp) _, own_apart hS (by simp) _, hap⟩

set_option maxHeartbeats 6400000 in
set_option maxRecDepth 100000 in
theorem run_clash (xs : List DPaper) (A : Option Addr) (c b : Nat) (w0 : World) (bud : Int) (hA : RowsAt w0 5 A (xs.map DPaper.cells)) (hb0 : b = w0.heap.size) (hP : ∀ x ∈ xs, 1 ≤ x.fTrust ∧ x.fTrust ≤ 1000) (hn : xs.length ≤ 1000) (hbud : bud ≤ 20000) (m k : Nat) (hk : k < xs.length)
    (ih : ∀ (t : List Nat) (s : Int) (S : WS) (best : List Nat) (most : Int) (w : World), (∀ i ∈ t, i < xs.length) → t.length ≤ k + 1 → Agr xs t → s = sumT xs t → BestT xs t (k + 1) S → (∀ i ∈ S.best, i < xs.length) → 0 ≤ S.most → RelR S best most → 0 ≤ s → s ≤ 1000 * ((k : Int) + 1) → (S.left : Int) ≤ bud → Below b w0 w → RefAt b (.slice A xs.length c) t best most (bud - (S.left : Int)) bud false w → Calls Try.prog 70 #[.pointer (some ⟨b, 0, none⟩), .int .i64 ((k : Int) + 1), .int .i64 s] w (RPost b w0 xs (.slice A xs.length c) (srchT xs m (k + 1) t s S) t bud))
    (t : List Nat) (s : Int) (S : WS) (best : List Nat) (most : Int) (w : World) (ht : ∀ i ∈ t, i < xs.length) (htl : t.length ≤ k) (hag : Agr xs t) (hsu : s = sumT xs t) (hbt : BestT xs t k S) (hbb : ∀ i ∈ S.best, i < xs.length) (h0 : 0 ≤ S.most) (hrel : RelR S best most) (hs0 : 0 ≤ s) (hs1 : s ≤ 1000 * (k : Int)) (hl : (S.left : Int) ≤ bud) (hbl : Below b w0 w) (hst : RefAt b (.slice A xs.length c) t best most (bud - (S.left : Int)) bud false w) (hz : clAny xs t k = true) :
    Calls Try.prog 70 #[.pointer (some ⟨b, 0, none⟩), .int .i64 (k : Int), .int .i64 s] w (RPost b w0 xs (.slice A xs.length c) (srchT xs (m + 1) k t s S) t bud) := by
  obtain ⟨At, ct, Ab, cb, ho, htk, hbs, hap⟩ := hst
  have HO := hid ho
  have HT := hid htk
  have HS := hid hbs
  have HP := hid hap
  have HB := hid hbl
  have HIH := hid ih
  have HI := hid ht
  have HPP := hid hP
  have HZ := hid hz
  have HAA := hid hA
  have HAG := hid hag
  have HSU := hid hsu
  have HBT0 := hid hbt
  have HBB0 := hid hbb
  have H00 := hid h0
  have HREL0 := hid hrel
  obtain ⟨ab, ao, rfl, -, -⟩ := hA (by intro e; rw [List.map_eq_nil_iff] at e; rw [e] at hk; exact absurd hk (by simp))
  have q0 : (0 : Int) ≤ (k : Int) := by omega
  have q1 : (k : Int) < xs.length := by omega
  have q2 : ((k : Int) == (xs.length : Int)) = false := by rw [beq_eq_false_iff_ne]; omega
  have HB0 := hid hb0
  have hbw : b < w.heap.size := (HO.out.lt b rfl).2
  have hlen : (t ++ [k]).length ≤ k + 1 := by rw [List.length_append, List.length_singleton]; omega
  have HMEM := hid (show ∀ i ∈ t ++ [k], i < xs.length from fun i hi => by
    rw [List.mem_append, List.mem_singleton] at hi
    rcases hi with hi | hi
    · exact HI.out i hi
    · omega)
  clear ho htk hbs hap hbl ih ht hP hz hA hb0 hag hsu hbt hbb h0 hrel
  have c0 := HO.out.cellAt 0 (by omega)
  have c1 := HO.out.cellAt 1 (by omega)
  have c2 := HO.out.cellAt 2 (by omega)
  have c3 := HO.out.cellAt 3 (by omega)
  have c4 := HO.out.cellAt 4 (by omega)
  have c5 := HO.out.cellAt 5 (by omega)
  have c6 := HO.out.cellAt 6 (by omega)
  have f0 := HO.out.frozenAt 0
  have f1 := HO.out.frozenAt 1
  have f2 := HO.out.frozenAt 2
  have f3 := HO.out.frozenAt 3
  have f4 := HO.out.frozenAt 4
  have f5 := HO.out.frozenAt 5
  have f6 := HO.out.frozenAt 6
  simp only [List.getElem?_cons_zero, List.getElem?_cons_succ] at c0 c1 c2 c3 c4 c5 c6
  go_enter Try.func70, Try.ntmps70
  go_wp2_with (at_builtin; refine wpList_app2 (w0 := w) rfl (.tmp 54) (.tmp 56) 24 rfl (b + 1) 2 (.int .i64 0) 1 8 Try.underlying24 infoI rfl (by decide) _ _ _ rfl HT.out #[.int .i64 (k : Int)] 1 1 (by first | rfl | simp [Act.eval]) rfl (by simp [Value.oneCell']) (by omega) hbw (Below.refl _ _) ?_; intro v9 w9 hown9 hbel9 hgr9 hb9; obtain ⟨A9, c9, rfl⟩ := own_sliceV hown9; have R9 := hid (takeR HO.out HT.out HS.out HP.out hown9 hgr9 hb9 HB.out); clear c0 f0 c1 f1 c2 f2 c3 f3 c4 f4 c5 f5 c6 f6; have e1 := R9.out.2.2.1; have i1 := R9.out.2.2.2; clear hown9 hbel9 hgr9 hb9)
  have B9 := hid R9.out.1
  obtain ⟨Au, cu, Av, cv, hou, htu, hsu, hpu⟩ := R9.out.2.1
  clear e1 i1
  generalize w9.setCell ⟨b, 1, none⟩ (.slice A9 (t.length + 1) c9) = W at B9 hou htu hsu hpu ⊢
  have OU := hid hou
  have TU := hid htu
  have SU := hid hsu
  have PU := hid hpu
  have RU := hid (show RefAt b (.slice (some ⟨ab, ao, none⟩) xs.length c) (t ++ [k]) best most (bud - (S.left : Int)) bud false W from ⟨Au, cu, Av, cv, hou, htu, hsu, hpu⟩)
  have hbW : b < W.heap.size := (hou.lt b rfl).2
  clear hou htu hsu hpu R9
  have c0 := OU.out.cellAt 0 (by omega)
  have c1 := OU.out.cellAt 1 (by omega)
  have c2 := OU.out.cellAt 2 (by omega)
  have c3 := OU.out.cellAt 3 (by omega)
  have c4 := OU.out.cellAt 4 (by omega)
  have c5 := OU.out.cellAt 5 (by omega)
  have c6 := OU.out.cellAt 6 (by omega)
  have f0 := OU.out.frozenAt 0
  have f1 := OU.out.frozenAt 1
  have f2 := OU.out.frozenAt 2
  have f3 := OU.out.frozenAt 3
  have f4 := OU.out.frozenAt 4
  have f5 := OU.out.frozenAt 5
  have f6 := OU.out.frozenAt 6
  simp only [List.length_append, List.length_singleton, List.getElem?_cons_zero, List.getElem?_cons_succ] at c0 c1 c2 c3 c4 c5 c6
  have TU1 := hid (show W.drew.ownsRow (b + 1) 2 1 (.slice Au (t.length + 1) cu) (t.length + 1) (tV (t ++ [k])) by have h9 := TU.out; rw [List.length_append, List.length_singleton] at h9; exact h9)
  have AW := hid (HAA.out.below (show Below w0.heap.size w0 W by rw [← HB0.out]; exact B9.out))
  have HAGR := hid (agreesR (w := W.drew) xs (some ⟨ab, ao, none⟩) c k (AW.out.below (Below.refl W.heap.size W).drew) (by omega) TU1.out HMEM.out (by omega) HAG.out false (congrArg not HZ.out))
  apply wp_post (R := fun w' => Below b w0 w' ∧ RefAt b (.slice (some ⟨ab, ao, none⟩) xs.length c) (t ++ [k]) best most (bud - (S.left : Int)) bud false w')
  · refine wp_region_held_drew (S := (fun w' => w'.cell? ⟨b, 0, none⟩ = some (.slice (some ⟨ab, ao, none⟩) xs.length c) ∧ w'.cell? ⟨b, 1, none⟩ = some (.slice Au (t.length + 1) cu))) (by kernel_rfl) ⟨c0, c1⟩ (fun hHeld => ?_)
    refine wpAnyH_take (i := 0) (oi := ⟨some 60, _, _, _, _, _⟩) (v := ?_) rfl (by kernel_rfl) (by kernel_rfl) (by kernel_rfl) (fun _ _ _ h => h) (Or.inl ⟨by rfl, ?_⟩) (by assumption) ?_
    rotate_left
    · (intro w hSw; (try dsimp only at hSw); go_simp; try with_reducible rfl)
    try simp only [Act.put, List.setIfInBounds_toArray, List.set_cons_zero, List.set_cons_succ]
    refine wpAnyH_take (i := 1) (oi := ⟨some 61, _, _, _, _, _⟩) (v := ?_) rfl (by kernel_rfl) (by kernel_rfl) (by kernel_rfl) (fun _ _ _ h => h) (Or.inl ⟨by rfl, ?_⟩) (by assumption) ?_
    rotate_left
    · (intro w hSw; (try dsimp only at hSw); go_simp; try with_reducible rfl)
    try simp only [Act.put, List.setIfInBounds_toArray, List.set_cons_zero, List.set_cons_succ]
    refine wpAnyH_take (i := 2) (oi := ⟨some 62, _, _, _, _, _⟩) (v := ?_) rfl (by kernel_rfl) (by kernel_rfl) (by kernel_rfl) (fun _ _ _ h => h) (Or.inl ⟨by rfl, ?_⟩) (by assumption) ?_
    rotate_left
    · (intro w hSw; (try dsimp only at hSw); go_simp; try with_reducible rfl)
    try simp only [Act.put, List.setIfInBounds_toArray, List.set_cons_zero, List.set_cons_succ]
    refine wpAnyH_take (i := 3) (oi := ⟨some 63, _, _, _, _, _⟩) (v := ?_) rfl (by kernel_rfl) (by kernel_rfl) (by kernel_rfl) (fun _ _ _ h => h) (Or.inl ⟨by rfl, ?_⟩) (by assumption) ?_
    rotate_left
    · (intro w hSw; (try dsimp only at hSw); go_simp; try with_reducible rfl)
    try simp only [Act.put, List.setIfInBounds_toArray, List.set_cons_zero, List.set_cons_succ]
    refine wpAnyH_take (i := 4) (oi := ⟨some 64, _, _, _, _, _⟩) (v := ?_) rfl (by kernel_rfl) (by kernel_rfl) (by kernel_rfl) (fun _ _ _ h => h) (Or.inl ⟨by rfl, ?_⟩) (by assumption) ?_
    rotate_left
    · (intro w hSw; (try dsimp only at hSw); go_simp; try with_reducible rfl)
    try simp only [Act.put, List.setIfInBounds_toArray, List.set_cons_zero, List.set_cons_succ]
    refine wpAnyH_take (i := 5) (oi := ⟨some 65, _, _, _, _, _⟩) (v := ?_) rfl (by kernel_rfl) (by kernel_rfl) (by kernel_rfl) (fun _ _ _ h => h) (Or.inl ⟨by rfl, ?_⟩) (by assumption) ?_
    rotate_left
    · (intro w hSw; (try dsimp only at hSw); go_simp; try with_reducible rfl)
    try simp only [Act.put, List.setIfInBounds_toArray, List.set_cons_zero, List.set_cons_succ]
    refine wpAnyH_take (i := 6) (oi := ⟨some 66, _, _, _, _, _⟩) (v := ?_) rfl (by kernel_rfl) (by kernel_rfl) (by kernel_rfl) (fun _ _ _ h => h) (Or.inl ⟨by rfl, ?_⟩) (by assumption) ?_
    rotate_left
    · (intro w hSw; (try dsimp only at hSw); go_simp; try with_reducible rfl)
    try simp only [Act.put, List.setIfInBounds_toArray, List.set_cons_zero, List.set_cons_succ]
    refine wpAnyH_take (i := 7) (oi := ⟨some 67, _, _, _, _, _⟩) (v := ?_) rfl (by kernel_rfl) (by kernel_rfl) (by kernel_rfl) (fun _ _ _ h => h) (Or.inl ⟨by rfl, ?_⟩) (by assumption) ?_
    rotate_left
    · (intro w hSw; (try dsimp only at hSw); go_simp; try with_reducible rfl)
    try simp only [Act.put, List.setIfInBounds_toArray, List.set_cons_zero, List.set_cons_succ]
    refine wpAnyH_ready (rs := [8]) (by kernel_rfl) (by simp) ?_
    refine AllReadyH.cons (o := ⟨some 68, _, _, _, _, _⟩) rfl (fun K hK => ?_) AllReadyH.nil
    go_simp
    go_at_call 133; refine HAGR.out.mono ?_; rintro e w6 ⟨rfl, hb6⟩; have R6 := hid (RefAt.below (w := W.drew) RU.out hb6); have B6 := hid (below_up B9.out.drew (Nat.le_of_lt hbW) hb6); have s60 := (hb6.cell (p := ⟨b, 0, none⟩) hbW).trans c0; have s61 := (hb6.cell (p := ⟨b, 1, none⟩) hbW).trans c1; clear hb6
    (try go_wp2_with fail)
    refine hK.out _ _ (⟨s60, s61⟩) (fun hHeld => ?_)
    clear hK K
    try simp only [Act.put, List.setIfInBounds_toArray, List.set_cons_zero, List.set_cons_succ]
    refine wpAnyH_take (i := 9) (oi := ⟨some 69, _, _, _, _, _⟩) (v := ?_) rfl (by kernel_rfl) (by kernel_rfl) (by kernel_rfl) (fun _ _ _ h => h) (Or.inl ⟨by rfl, ?_⟩) (by assumption) ?_
    rotate_left
    · (intro w hSw; (try dsimp only at hSw); go_simp; try with_reducible rfl)
    try simp only [Act.put, List.setIfInBounds_toArray, List.set_cons_zero, List.set_cons_succ]
    refine wpAnyH_take (i := 10) (oi := ⟨some 70, _, _, _, _, _⟩) (v := undef) rfl (by kernel_rfl) (by kernel_rfl) (by kernel_rfl) (fun _ _ _ h => h) (Or.inr ⟨by rfl, rfl⟩) (by assumption) ?_
    try simp only [Act.put, List.setIfInBounds_toArray, List.set_cons_zero, List.set_cons_succ]
    refine wpAnyH_take (i := 11) (oi := ⟨some 71, _, _, _, _, _⟩) (v := undef) rfl (by kernel_rfl) (by kernel_rfl) (by kernel_rfl) (fun _ _ _ h => h) (Or.inr ⟨by rfl, rfl⟩) (by assumption) ?_
    try simp only [Act.put, List.setIfInBounds_toArray, List.set_cons_zero, List.set_cons_succ]
    refine wpAnyH_take (i := 12) (oi := ⟨some 72, _, _, _, _, _⟩) (v := ?_) rfl (by kernel_rfl) (by kernel_rfl) (by kernel_rfl) (fun _ _ _ h => h) (Or.inl ⟨by rfl, ?_⟩) (by assumption) ?_
    rotate_left
    · (intro w hSw; (try dsimp only at hSw); go_simp; try with_reducible rfl)
    try simp only [Act.put, List.setIfInBounds_toArray, List.set_cons_zero, List.set_cons_succ]
    refine wpAnyH_done (by kernel_rfl) ?_ _
    exact ⟨rfl, B6.out, R6.out⟩
  · rintro w10 ⟨hb10, hst10⟩
    have HB10 := hid hb10
    have HR := hid (show srchT xs (m + 1) k t s S = (nodeT S).bind fun S3 => srchT xs m (k + 1) t s S3 by rw [srchT, if_pos HZ.out]; rfl)
    have HBT := hid (show BestT xs t (k + 1) ⟨S.left - 1, S.best, S.most⟩ from (HBT0.out.skip (.inl ⟨rfl, rfl⟩)).same ⟨rfl, rfl⟩)
    have HBB := hid (show ∀ i ∈ (⟨S.left - 1, S.best, S.most⟩ : WS).best, i < xs.length from HBB0.out)
    have H0 := hid (show 0 ≤ (⟨S.left - 1, S.best, S.most⟩ : WS).most from H00.out)
    have HREL := hid (show RelR ⟨S.left - 1, S.best, S.most⟩ best most from HREL0.out)
    clear hb10 c0 f0 c1 f1 c2 f2 c3 f3 c4 f4 c5 f5 c6 f6
    obtain ⟨Ata, cta, Aba, cba, hoa, hta, hsa, hapa⟩ := hst10
    obtain ⟨g10, cg, hv10, -, -, -⟩ := own_form hta (by simp)
    injection hv10 with a1 a2 a3
    subst a1 a3
    have OA := hid hoa
    have TA := hid hta
    have SA := hid hsa
    have PA := hid hapa
    have hcp := own_capP hta
    rw [List.length_append, List.length_singleton] at hcp
    clear hoa hta hsa hapa
    have c0 := OA.out.cellAt 0 (by omega)
    have c1 := OA.out.cellAt 1 (by omega)
    have c2 := OA.out.cellAt 2 (by omega)
    have c3 := OA.out.cellAt 3 (by omega)
    have c4 := OA.out.cellAt 4 (by omega)
    have c5 := OA.out.cellAt 5 (by omega)
    have c6 := OA.out.cellAt 6 (by omega)
    have f0 := OA.out.frozenAt 0
    have f1 := OA.out.frozenAt 1
    have f2 := OA.out.frozenAt 2
    have f3 := OA.out.frozenAt 3
    have f4 := OA.out.frozenAt 4
    have f5 := OA.out.frozenAt 5
    have f6 := OA.out.frozenAt 6
    simp only [List.length_append, List.length_singleton, List.getElem?_cons_zero, List.getElem?_cons_succ] at c0 c1 c2 c3 c4 c5 c6
    have hc0 : ¬ (cta = 0) := by omega
    have ht0 : (0 : Int) ≤ (t.length : Int) := by omega
    have ht1 : (t.length : Int) ≤ (cta : Int) := by omega
    have ht2 : t.length ≤ cta := by omega
    have R10 := hid (cutR OA.out TA.out SA.out PA.out)
    go_wp2_with fail
    apply wp_post (R := fun w' => Below b w0 w' ∧ RefAt b (.slice (some ⟨ab, ao, none⟩) xs.length c) t best most (bud - (S.left : Int)) bud false w')
    · go_region
      all_goals exact ⟨rfl, (HB10.out.setCell (p := ⟨b, 1, none⟩) (Nat.le_refl _) _).drew, R10.out⟩
    · rintro w11 ⟨hb11, hst11⟩
      clear c0 f0 c1 f1 c2 f2 c3 f3 c4 f4 c5 f5 c6 f6
      by_cases hl0 : S.left = 0
      · have HE := hid (show srchT xs (m + 1) k t s S = none by rw [HR.out, nodeT, if_pos hl0]; rfl)
        have hnb : bud - (S.left : Int) = bud := by omega
        rw [hnb] at hst11
        go_wp2_with fail
        refine (nodeR_full hst11).mono ?_
        rintro e w12 ⟨rfl, hst12, hb12, -⟩
        have B12 := hid (hb11.trans hb12)
        clear hb12
        go_wp2_with fail
        (try simp only [Exit.inBlock, Exit.then]); first | refine bodyPost_ret (results_none rfl _ _ _) rfl ?_ | refine bodyPost_end (results_none rfl _ _ _) rfl ?_
        refine ⟨rfl, B12.out, ?_⟩
        rw [HE.out]
        exact ⟨_, _, hst12⟩
      · have hl1 : 1 ≤ S.left := by omega
        have HE := hid (show srchT xs (m + 1) k t s S = srchT xs m (k + 1) t s ⟨S.left - 1, S.best, S.most⟩ by rw [HR.out, nodeT, if_neg hl0]; rfl)
        have hcast : bud - (S.left : Int) + 1 = bud - ((S.left - 1 : Nat) : Int) := by omega
        go_wp2_with fail
        refine (nodeR_more hst11 (by omega) (by omega) (by omega)).mono ?_
        rintro e w12 ⟨rfl, hst12, hb12, -⟩
        rw [hcast] at hst12
        have B12 := hid (hb11.trans hb12)
        clear hb12 hcast
        go_wp2_with fail
        refine (HIH.out t s ⟨S.left - 1, S.best, S.most⟩ best most w12 HI.out (by omega) HAG.out HSU.out HBT.out HBB.out H0.out HREL.out hs0 (by omega) (by simp only; omega) B12.out hst12).mono ?_
        rintro e w13 ⟨rfl, hb13, hr⟩
        rw [← HE.out] at hr
        have B13 := hid hb13
        have HRR := hid hr
        clear hb13 hr
        go_wp2_with fail
        (try simp only [Exit.inBlock, Exit.then]); first | refine bodyPost_ret (results_none rfl _ _ _) rfl ?_ | refine bodyPost_end (results_none rfl _ _ _) rfl ?_
        exact ⟨rfl, B13.out, HRR.out⟩
end Go.Proofs.Ytdbjbkdcmhekfaa
