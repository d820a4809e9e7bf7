/- FnOutlines: ovals by the program and by the reference. -/
import Derived.Test.YtdbjbkdcmhekfaaOutH
namespace Go.Proofs.Ytdbjbkdcmhekfaa
open Go.RowKit
set_option linter.unusedVariables false

theorem keepSix {w1 wa wb : World} {b c o : Nat} {v0 v1 v2 v3 v4 v5 : Value} (hc : c < w1.heap.size) (h : (True ∧ Below w1.heap.size w1 wa ∧ b < wa.heap.size) ∧ wa.cell? ⟨b, 0, none⟩ = some v0 ∧ wa.cell? ⟨b, 1, none⟩ = some v1 ∧ wa.cell? ⟨c, o, none⟩ = some v2 ∧ wa.cell? ⟨c, o + 1, none⟩ = some v3 ∧ wa.cell? ⟨c, o + 2, none⟩ = some v4 ∧ wa.cell? ⟨c, o + 3, none⟩ = some v5) {row : Option Nat} (hg : wa.grownBy wb row) (hne : some b ≠ row) (hw : Below w1.heap.size w1 wb) :
    (True ∧ Below w1.heap.size w1 wb ∧ b < wb.heap.size) ∧ wb.cell? ⟨b, 0, none⟩ = some v0 ∧ wb.cell? ⟨b, 1, none⟩ = some v1 ∧ wb.cell? ⟨c, o, none⟩ = some v2 ∧ wb.cell? ⟨c, o + 1, none⟩ = some v3 ∧ wb.cell? ⟨c, o + 2, none⟩ = some v4 ∧ wb.cell? ⟨c, o + 3, none⟩ = some v5 := by
  obtain ⟨⟨-, h1, h2⟩, k0, k1, k2, k3, k4, k5⟩ := h
  have hb := hg.block b h2 hne
  have hc' : wb.heap[c]? = wa.heap[c]? := (hw.block c hc).trans (h1.block c hc).symm
  exact ⟨⟨trivial, hw, Nat.lt_of_lt_of_le h2 hg.size⟩, (World.cell?_of_block (a := ⟨b, 0, none⟩) hb).trans k0, (World.cell?_of_block (a := ⟨b, 1, none⟩) hb).trans k1, (World.cell?_of_block (a := ⟨c, o, none⟩) hc').trans k2, (World.cell?_of_block (a := ⟨c, o + 1, none⟩) hc').trans k3, (World.cell?_of_block (a := ⟨c, o + 2, none⟩) hc').trans k4, (World.cell?_of_block (a := ⟨c, o + 3, none⟩) hc').trans k5⟩
theorem grown_alloc (w : World) (o : Obj) : w.grownBy (w.alloc o) none := World.grownBy_alloc w o none

set_option maxHeartbeats 1600000 in
set_option maxRecDepth 100000 in
theorem OvalOutline_ok (k m : Int) (w : World) (hk : 0 ≤ k ∧ k ≤ 900) (hm : 1 ≤ m ∧ m ≤ 900) :
    Calls Try.prog 48 #[.int .i64 k, .int .i64 m] w (RetArcs w (ovalL k m) 4) := by
  have c1 : inB k 0 10000 = true := inB_iff.2 (by omega)
  have c2 : inB m 1 10000 = true := inB_iff.2 (by omega)
  have v1 : IntKind.i64.wrap (3 * k) = 3 * k := IntWalk.i64_in _ (by omega)
  have v2 : IntKind.i64.wrap (3 * m) = 3 * m := IntWalk.i64_in _ (by omega)
  have v3 : IntKind.i64.wrap (3 * k + 3 * m) = 3 * k + 3 * m := IntWalk.i64_in _ (by omega)
  have v4 : IntKind.i64.wrap (4 * m) = 4 * m := IntWalk.i64_in _ (by omega)
  have v5 : IntKind.i64.wrap (-4 * k) = -4 * k := IntWalk.i64_in _ (by omega)
  have v6 : IntKind.i64.wrap (-3 * k) = -3 * k := IntWalk.i64_in _ (by omega)
  have v7 : IntKind.i64.wrap (4 * k) = 4 * k := IntWalk.i64_in _ (by omega)
  have v8 : IntKind.i64.wrap (-(3 * k + 3 * m)) = -(3 * k + 3 * m) := IntWalk.i64_in _ (by omega)
  have v9 : IntKind.i64.wrap (-(4 * m)) = -(4 * m) := IntWalk.i64_in _ (by omega)
  obtain ⟨W2, hW2⟩ : ∃ W2, W2 = (w.alloc (.cells #[.int .i64 0, .int .i64 (-4 * k), .int .i64 (-3 * k), .int .i64 0, .int .i64 0, .int .i64 (4 * k), .int .i64 (3 * k), .int .i64 0] 171)).alloc (.cells #[.int .i64 (3 * k + 3 * m), .int .i64 (4 * m), .int .i64 (-(3 * k + 3 * m)), .int .i64 (4 * m), .int .i64 (-(3 * k + 3 * m)), .int .i64 (-(4 * m)), .int .i64 (3 * k + 3 * m), .int .i64 (-(4 * m)), .int .i64 (3 * k + 3 * m), .int .i64 (4 * m)] 172) := ⟨_, rfl⟩
  have HP := hid (show ∀ (i : Nat) v, [.int .i64 (3 * k + 3 * m), .int .i64 (4 * m), .int .i64 (-(3 * k + 3 * m)), .int .i64 (4 * m), .int .i64 (-(3 * k + 3 * m)), .int .i64 (-(4 * m)), .int .i64 (3 * k + 3 * m), .int .i64 (-(4 * m)), .int .i64 (3 * k + 3 * m), .int .i64 (4 * m)][i]? = some v → W2.cell? ⟨w.heap.size + 1, i, none⟩ = some v by
    have h := (HasC.new (w.alloc (.cells #[.int .i64 0, .int .i64 (-4 * k), .int .i64 (-3 * k), .int .i64 0, .int .i64 0, .int .i64 (4 * k), .int .i64 (3 * k), .int .i64 0] 171)) [.int .i64 (3 * k + 3 * m), .int .i64 (4 * m), .int .i64 (-(3 * k + 3 * m)), .int .i64 (4 * m), .int .i64 (-(3 * k + 3 * m)), .int .i64 (-(4 * m)), .int .i64 (3 * k + 3 * m), .int .i64 (-(4 * m)), .int .i64 (3 * k + 3 * m), .int .i64 (4 * m)] 172).2
    rw [show (w.alloc (.cells #[.int .i64 0, .int .i64 (-4 * k), .int .i64 (-3 * k), .int .i64 0, .int .i64 0, .int .i64 (4 * k), .int .i64 (3 * k), .int .i64 0] 171)).heap.size = w.heap.size + 1 by simp] at h
    rw [hW2]
    exact h)
  have HW := hid hW2
  have HB0 := hid (show Below w.heap.size w W2 by rw [hW2]; exact below_trans (below_alloc _ _) (below_alloc _ _))
  have hs2 : w.heap.size + 1 < W2.heap.size := by rw [hW2]; simp
  have HSZ := hid (show W2.heap.size = w.heap.size + 1 + 1 by rw [hW2]; simp)
  clear hk hm hW2
  go_enter Try.func48, Try.ntmps48
  go_wp2_with fail
  refine (within_ok _ _ _ _).mono ?_
  rintro e w6 ⟨rfl, rfl⟩
  rw [c1]
  go_wp2_with fail
  refine (within_ok _ _ _ _).mono ?_
  rintro e w6 ⟨rfl, rfl⟩
  rw [c2]
  go_wp2_with fail
  rw [← HW.out]
  go_loopw [10, 63] (fun v i wr => ∃ j : Nat, j ≤ 4 ∧ i = .int .i64 (j : Int) ∧ ArcsAt W2 (ovalL k m) j v wr) (fun _ i _ => 4 - (intOf i).toNat)
  case atStart => exact ⟨0, Nat.zero_le _, rfl, by have h := ArcsAt.start W2 (ovalL k m); rw [HSZ.out] at h; exact h⟩
  case round =>
    obtain ⟨j, hj, rfl, g, cc, rfl, hown, hbel⟩ := hrel
    have HO := hid hown
    have HB := hid hbel
    clear hown hbel
    rcases (show j = 0 ∨ j = 1 ∨ j = 2 ∨ j = 3 ∨ j = 4 by omega) with rfl | rfl | rfl | rfl | rfl
    · have hidx : ∀ w', (Instr.index 171 (.agg #[.int .i64 0, .int .i64 (-4 * k), .int .i64 (-3 * k), .int .i64 0, .int .i64 0, .int .i64 (4 * k), .int .i64 (3 * k), .int .i64 0]) (.int .i64 0)).run Try.prog w' = .ok (.agg #[.int .i64 0, .int .i64 (-4 * k)]) w' := fun w' => by kernel_rfl
      have u1 : IntKind.i64.wrap 1 = 1 := IntWalk.i64_in _ (by omega)
      have hz := HasC.new wr [.int .i64 0, .int .i64 (-4 * k)] 86
      have hl := hz.1
      have z0 := hz.2 0 _ rfl
      have z1 := hz.2 1 _ rfl
      have p0 : (wr.alloc (.cells #[.int .i64 0, .int .i64 (-4 * k)] 86)).cell? ⟨w.heap.size + 1, 0, none⟩ = some (.int .i64 (3 * k + 3 * m)) := ((below_trans HB.out (below_alloc wr (.cells #[.int .i64 0, .int .i64 (-4 * k)] 86))).cell (p := ⟨w.heap.size + 1, 0, none⟩) hs2).trans (HP.out 0 _ rfl)
      have p1 : (wr.alloc (.cells #[.int .i64 0, .int .i64 (-4 * k)] 86)).cell? ⟨w.heap.size + 1, 1, none⟩ = some (.int .i64 (4 * m)) := ((below_trans HB.out (below_alloc wr (.cells #[.int .i64 0, .int .i64 (-4 * k)] 86))).cell (p := ⟨w.heap.size + 1, 1, none⟩) hs2).trans (HP.out 1 _ rfl)
      have p2 : (wr.alloc (.cells #[.int .i64 0, .int .i64 (-4 * k)] 86)).cell? ⟨w.heap.size + 1, 2, none⟩ = some (.int .i64 (-(3 * k + 3 * m))) := ((below_trans HB.out (below_alloc wr (.cells #[.int .i64 0, .int .i64 (-4 * k)] 86))).cell (p := ⟨w.heap.size + 1, 2, none⟩) hs2).trans (HP.out 2 _ rfl)
      have p3 : (wr.alloc (.cells #[.int .i64 0, .int .i64 (-4 * k)] 86)).cell? ⟨w.heap.size + 1, 3, none⟩ = some (.int .i64 (4 * m)) := ((below_trans HB.out (below_alloc wr (.cells #[.int .i64 0, .int .i64 (-4 * k)] 86))).cell (p := ⟨w.heap.size + 1, 3, none⟩) hs2).trans (HP.out 3 _ rfl)
      have OW := hid (own_below (own_below HO.out (below_alloc wr (.cells #[.int .i64 0, .int .i64 (-4 * k)] 86))) (Below.refl _ _).drew)
      have hne1 : some wr.heap.size ≠ (Value.slice (some ⟨g, 0, none⟩) 0 cc).ownBlock := fun e => by
        have h1 := (HO.out.lt g rfl).2
        have h2 : some wr.heap.size = some g := e
        injection h2 with h2
        omega
      clear hz
      go_upto_region 10 with fail
      refine wp_region_held_drew (S := (fun w' => (True ∧ Below W2.heap.size W2 w' ∧ wr.heap.size < w'.heap.size) ∧ w'.cell? ⟨wr.heap.size, 0, none⟩ = some (.int .i64 0) ∧ w'.cell? ⟨wr.heap.size, 1, none⟩ = some (.int .i64 (-4 * k)) ∧ w'.cell? ⟨w.heap.size + 1, 0, none⟩ = some (.int .i64 (3 * k + 3 * m)) ∧ w'.cell? ⟨w.heap.size + 1, 1, none⟩ = some (.int .i64 (4 * m)) ∧ w'.cell? ⟨w.heap.size + 1, 2, none⟩ = some (.int .i64 (-(3 * k + 3 * m))) ∧ w'.cell? ⟨w.heap.size + 1, 3, none⟩ = some (.int .i64 (4 * m)))) (by kernel_rfl) ⟨⟨trivial, (below_trans HB.out (below_alloc wr (.cells #[.int .i64 0, .int .i64 (-4 * k)] 86))).drew, hl⟩, z0, z1, p0, p1, p2, p3⟩ (fun hHeld => ?_)
      refine wpAnyH_take (i := 0) (oi := ⟨some 67, _, _, _, _, _⟩) (v := ?_) rfl (by kernel_rfl) (by kernel_rfl) (by kernel_rfl) (fun _ _ _ h => h) (Or.inl ⟨by rfl, ?_⟩) (by assumption) ?_
      rotate_left
      · (intro w hSw; (try dsimp only at hSw); go_simp; try with_reducible rfl)
      try simp only [Act.put, List.setIfInBounds_toArray, List.set_cons_zero, List.set_cons_succ]
      refine wpAnyH_take (i := 1) (oi := ⟨some 68, _, _, _, _, _⟩) (v := ?_) rfl (by kernel_rfl) (by kernel_rfl) (by kernel_rfl) (fun _ _ _ h => h) (Or.inl ⟨by rfl, ?_⟩) (by assumption) ?_
      rotate_left
      · (intro w hSw; (try dsimp only at hSw); go_simp; try with_reducible rfl)
      try simp only [Act.put, List.setIfInBounds_toArray, List.set_cons_zero, List.set_cons_succ]
      refine wpAnyH_take (i := 2) (oi := ⟨some 69, _, _, _, _, _⟩) (v := ?_) rfl (by kernel_rfl) (by kernel_rfl) (by kernel_rfl) (fun _ _ _ h => h) (Or.inl ⟨by rfl, ?_⟩) (by assumption) ?_
      rotate_left
      · (intro w hSw; (try dsimp only at hSw); go_simp; try with_reducible rfl)
      try simp only [Act.put, List.setIfInBounds_toArray, List.set_cons_zero, List.set_cons_succ]
      refine wpAnyH_take (i := 3) (oi := ⟨some 70, _, _, _, _, _⟩) (v := ?_) rfl (by kernel_rfl) (by kernel_rfl) (by kernel_rfl) (fun _ _ _ h => h) (Or.inl ⟨by rfl, ?_⟩) (by assumption) ?_
      rotate_left
      · (intro w hSw; (try dsimp only at hSw); go_simp; try with_reducible rfl)
      try simp only [Act.put, List.setIfInBounds_toArray, List.set_cons_zero, List.set_cons_succ]
      refine wpAnyH_take (i := 4) (oi := ⟨some 71, _, _, _, _, _⟩) (v := ?_) rfl (by kernel_rfl) (by kernel_rfl) (by kernel_rfl) (fun _ _ _ h => h) (Or.inl ⟨by rfl, ?_⟩) (by assumption) ?_
      rotate_left
      · (intro w hSw; (try dsimp only at hSw); go_simp; try with_reducible rfl)
      try simp only [Act.put, List.setIfInBounds_toArray, List.set_cons_zero, List.set_cons_succ]
      refine wpAnyH_take (i := 5) (oi := ⟨some 72, _, _, _, _, _⟩) (v := ?_) rfl (by kernel_rfl) (by kernel_rfl) (by kernel_rfl) (fun _ _ _ h => h) (Or.inl ⟨by rfl, ?_⟩) (by assumption) ?_
      rotate_left
      · (intro w hSw; (try dsimp only at hSw); go_simp; try with_reducible rfl)
      try simp only [Act.put, List.setIfInBounds_toArray, List.set_cons_zero, List.set_cons_succ]
      refine wpAnyH_take (i := 6) (oi := ⟨some 73, _, _, _, _, _⟩) (v := ?_) rfl (by kernel_rfl) (by kernel_rfl) (by kernel_rfl) (fun _ _ _ h => h) (Or.inl ⟨by rfl, ?_⟩) (by assumption) ?_
      rotate_left
      · (intro w hSw; (try dsimp only at hSw); go_simp; try with_reducible rfl)
      try simp only [Act.put, List.setIfInBounds_toArray, List.set_cons_zero, List.set_cons_succ]
      refine wpAnyH_take (i := 7) (oi := ⟨some 74, _, _, _, _, _⟩) (v := ?_) rfl (by kernel_rfl) (by kernel_rfl) (by kernel_rfl) (fun _ _ _ h => h) (Or.inl ⟨by rfl, ?_⟩) (by assumption) ?_
      rotate_left
      · (intro w hSw; (try dsimp only at hSw); go_simp; try with_reducible rfl)
      try simp only [Act.put, List.setIfInBounds_toArray, List.set_cons_zero, List.set_cons_succ]
      refine wpAnyH_take (i := 8) (oi := ⟨some 75, _, _, _, _, _⟩) (v := ?_) rfl (by kernel_rfl) (by kernel_rfl) (by kernel_rfl) (fun _ _ _ h => h) (Or.inl ⟨by rfl, ?_⟩) (by assumption) ?_
      rotate_left
      · (intro w hSw; (try dsimp only at hSw); go_simp; try with_reducible rfl)
      try simp only [Act.put, List.setIfInBounds_toArray, List.set_cons_zero, List.set_cons_succ]
      refine wpAnyH_take (i := 9) (oi := ⟨some 76, _, _, _, _, _⟩) (v := ?_) rfl (by kernel_rfl) (by kernel_rfl) (by kernel_rfl) (fun _ _ _ h => h) (Or.inl ⟨by rfl, ?_⟩) (by assumption) ?_
      rotate_left
      · (intro w hSw; (try dsimp only at hSw); go_simp; try with_reducible rfl)
      try simp only [Act.put, List.setIfInBounds_toArray, List.set_cons_zero, List.set_cons_succ]
      refine wpAnyH_ready (rs := [10]) (by kernel_rfl) (by simp) ?_
      refine AllReadyH.cons (o := ⟨some 77, _, _, _, _, _⟩) rfl (fun K hK => ?_) AllReadyH.nil
      have BW := hid hHeld.1.2.1
      go_simp
      refine hK.out _ _ (keepSix (o := 0) hs2 hHeld (grown_alloc _ _) (by simp) (hHeld.1.2.1.alloc hHeld.1.2.1.size _)) (fun hHeld => ?_)
      clear hK K
      try simp only [Act.put, List.setIfInBounds_toArray, List.set_cons_zero, List.set_cons_succ]
      refine wpAnyH_ready (rs := [11]) (by kernel_rfl) (by simp) ?_
      refine AllReadyH.cons (o := ⟨some 78, _, _, _, _, _⟩) rfl (fun K hK => ?_) AllReadyH.nil
      refine step_appO (w0 := W2) (wr := (wr.alloc (.cells #[.int .i64 0, .int .i64 (-4 * k)] 86)).drew) rfl (.tmp 67) (.tmp 77) 73 rfl W2.heap.size 88 (.agg #[.int .i64 0, .int .i64 0, .int .i64 0, .int .i64 0, .int .i64 0, .int .i64 0]) 6 48 Try.underlying73 infoArc rfl (by decide) (.slice (some ⟨g, 0, none⟩) 0 cc) 0 _ (by first | rfl | simp [Act.eval]) OW.out #[.int .i64 (0), .int .i64 (-4 * k), .int .i64 (3 * k + 3 * m), .int .i64 (4 * m), .int .i64 (-(3 * k + 3 * m)), .int .i64 (4 * m)] 1 1 (by first | rfl | simp [Act.eval]) rfl (by simp [Value.oneCell']) (by omega) BW.out.size BW.out ?_
      intro v1 w9 hown1 hbel1 hgr1 _
      refine hK.out _ _ (keepSix (o := 0) hs2 hHeld hgr1 hne1 hbel1) (fun hHeld => ?_)
      clear hK K
      try simp only [Act.put, List.setIfInBounds_toArray, List.set_cons_zero, List.set_cons_succ]
      refine wpAnyH_take (i := 12) (oi := ⟨some 10, _, _, _, _, _⟩) (v := ?_) rfl (by kernel_rfl) (by kernel_rfl) (by kernel_rfl) (fun _ _ _ h => h) (Or.inl ⟨by rfl, ?_⟩) (by assumption) ?_
      rotate_left
      · (intro w hSw; (try dsimp only at hSw); go_simp; try with_reducible rfl)
      try simp only [Act.put, List.setIfInBounds_toArray, List.set_cons_zero, List.set_cons_succ]
      refine wpAnyH_done (by kernel_rfl) ?_ _
      clear hHeld p0 p1 p2 p3 z0 z1 hl hgr1 hne1 hidx
      have HC := hid (ArcsAt.of (l := ovalL k m) (k := 0) rfl rfl hown1 hbel1)
      obtain ⟨g9, c9, rfl, -⟩ := own_form hown1 (by omega)
      clear hown1 hbel1
      go_wp2_with fail
      go_roundw
      case rel => exact ⟨1, by omega, by go_num, HC.out⟩
      case measure => simp [intOf]
    · have hidx : ∀ w', (Instr.index 171 (.agg #[.int .i64 0, .int .i64 (-4 * k), .int .i64 (-3 * k), .int .i64 0, .int .i64 0, .int .i64 (4 * k), .int .i64 (3 * k), .int .i64 0]) (.int .i64 1)).run Try.prog w' = .ok (.agg #[.int .i64 (-3 * k), .int .i64 0]) w' := fun w' => by kernel_rfl
      have u1 : IntKind.i64.wrap 2 = 2 := IntWalk.i64_in _ (by omega)
      have hz := HasC.new wr [.int .i64 (-3 * k), .int .i64 0] 86
      have hl := hz.1
      have z0 := hz.2 0 _ rfl
      have z1 := hz.2 1 _ rfl
      have p0 : (wr.alloc (.cells #[.int .i64 (-3 * k), .int .i64 0] 86)).cell? ⟨w.heap.size + 1, 2, none⟩ = some (.int .i64 (-(3 * k + 3 * m))) := ((below_trans HB.out (below_alloc wr (.cells #[.int .i64 (-3 * k), .int .i64 0] 86))).cell (p := ⟨w.heap.size + 1, 2, none⟩) hs2).trans (HP.out 2 _ rfl)
      have p1 : (wr.alloc (.cells #[.int .i64 (-3 * k), .int .i64 0] 86)).cell? ⟨w.heap.size + 1, 3, none⟩ = some (.int .i64 (4 * m)) := ((below_trans HB.out (below_alloc wr (.cells #[.int .i64 (-3 * k), .int .i64 0] 86))).cell (p := ⟨w.heap.size + 1, 3, none⟩) hs2).trans (HP.out 3 _ rfl)
      have p2 : (wr.alloc (.cells #[.int .i64 (-3 * k), .int .i64 0] 86)).cell? ⟨w.heap.size + 1, 4, none⟩ = some (.int .i64 (-(3 * k + 3 * m))) := ((below_trans HB.out (below_alloc wr (.cells #[.int .i64 (-3 * k), .int .i64 0] 86))).cell (p := ⟨w.heap.size + 1, 4, none⟩) hs2).trans (HP.out 4 _ rfl)
      have p3 : (wr.alloc (.cells #[.int .i64 (-3 * k), .int .i64 0] 86)).cell? ⟨w.heap.size + 1, 5, none⟩ = some (.int .i64 (-(4 * m))) := ((below_trans HB.out (below_alloc wr (.cells #[.int .i64 (-3 * k), .int .i64 0] 86))).cell (p := ⟨w.heap.size + 1, 5, none⟩) hs2).trans (HP.out 5 _ rfl)
      have OW := hid (own_below (own_below HO.out (below_alloc wr (.cells #[.int .i64 (-3 * k), .int .i64 0] 86))) (Below.refl _ _).drew)
      have hne1 : some wr.heap.size ≠ (Value.slice (some ⟨g, 0, none⟩) 1 cc).ownBlock := fun e => by
        have h1 := (HO.out.lt g rfl).2
        have h2 : some wr.heap.size = some g := e
        injection h2 with h2
        omega
      clear hz
      go_upto_region 10 with fail
      refine wp_region_held_drew (S := (fun w' => (True ∧ Below W2.heap.size W2 w' ∧ wr.heap.size < w'.heap.size) ∧ w'.cell? ⟨wr.heap.size, 0, none⟩ = some (.int .i64 (-3 * k)) ∧ w'.cell? ⟨wr.heap.size, 1, none⟩ = some (.int .i64 0) ∧ w'.cell? ⟨w.heap.size + 1, 2, none⟩ = some (.int .i64 (-(3 * k + 3 * m))) ∧ w'.cell? ⟨w.heap.size + 1, 3, none⟩ = some (.int .i64 (4 * m)) ∧ w'.cell? ⟨w.heap.size + 1, 4, none⟩ = some (.int .i64 (-(3 * k + 3 * m))) ∧ w'.cell? ⟨w.heap.size + 1, 5, none⟩ = some (.int .i64 (-(4 * m))))) (by kernel_rfl) ⟨⟨trivial, (below_trans HB.out (below_alloc wr (.cells #[.int .i64 (-3 * k), .int .i64 0] 86))).drew, hl⟩, z0, z1, p0, p1, p2, p3⟩ (fun hHeld => ?_)
      refine wpAnyH_take (i := 0) (oi := ⟨some 67, _, _, _, _, _⟩) (v := ?_) rfl (by kernel_rfl) (by kernel_rfl) (by kernel_rfl) (fun _ _ _ h => h) (Or.inl ⟨by rfl, ?_⟩) (by assumption) ?_
      rotate_left
      · (intro w hSw; (try dsimp only at hSw); go_simp; try with_reducible rfl)
      try simp only [Act.put, List.setIfInBounds_toArray, List.set_cons_zero, List.set_cons_succ]
      refine wpAnyH_take (i := 1) (oi := ⟨some 68, _, _, _, _, _⟩) (v := ?_) rfl (by kernel_rfl) (by kernel_rfl) (by kernel_rfl) (fun _ _ _ h => h) (Or.inl ⟨by rfl, ?_⟩) (by assumption) ?_
      rotate_left
      · (intro w hSw; (try dsimp only at hSw); go_simp; try with_reducible rfl)
      try simp only [Act.put, List.setIfInBounds_toArray, List.set_cons_zero, List.set_cons_succ]
      refine wpAnyH_take (i := 2) (oi := ⟨some 69, _, _, _, _, _⟩) (v := ?_) rfl (by kernel_rfl) (by kernel_rfl) (by kernel_rfl) (fun _ _ _ h => h) (Or.inl ⟨by rfl, ?_⟩) (by assumption) ?_
      rotate_left
      · (intro w hSw; (try dsimp only at hSw); go_simp; try with_reducible rfl)
      try simp only [Act.put, List.setIfInBounds_toArray, List.set_cons_zero, List.set_cons_succ]
      refine wpAnyH_take (i := 3) (oi := ⟨some 70, _, _, _, _, _⟩) (v := ?_) rfl (by kernel_rfl) (by kernel_rfl) (by kernel_rfl) (fun _ _ _ h => h) (Or.inl ⟨by rfl, ?_⟩) (by assumption) ?_
      rotate_left
      · (intro w hSw; (try dsimp only at hSw); go_simp; try with_reducible rfl)
      try simp only [Act.put, List.setIfInBounds_toArray, List.set_cons_zero, List.set_cons_succ]
      refine wpAnyH_take (i := 4) (oi := ⟨some 71, _, _, _, _, _⟩) (v := ?_) rfl (by kernel_rfl) (by kernel_rfl) (by kernel_rfl) (fun _ _ _ h => h) (Or.inl ⟨by rfl, ?_⟩) (by assumption) ?_
      rotate_left
      · (intro w hSw; (try dsimp only at hSw); go_simp; try with_reducible rfl)
      try simp only [Act.put, List.setIfInBounds_toArray, List.set_cons_zero, List.set_cons_succ]
      refine wpAnyH_take (i := 5) (oi := ⟨some 72, _, _, _, _, _⟩) (v := ?_) rfl (by kernel_rfl) (by kernel_rfl) (by kernel_rfl) (fun _ _ _ h => h) (Or.inl ⟨by rfl, ?_⟩) (by assumption) ?_
      rotate_left
      · (intro w hSw; (try dsimp only at hSw); go_simp; try with_reducible rfl)
      try simp only [Act.put, List.setIfInBounds_toArray, List.set_cons_zero, List.set_cons_succ]
      refine wpAnyH_take (i := 6) (oi := ⟨some 73, _, _, _, _, _⟩) (v := ?_) rfl (by kernel_rfl) (by kernel_rfl) (by kernel_rfl) (fun _ _ _ h => h) (Or.inl ⟨by rfl, ?_⟩) (by assumption) ?_
      rotate_left
      · (intro w hSw; (try dsimp only at hSw); go_simp; try with_reducible rfl)
      try simp only [Act.put, List.setIfInBounds_toArray, List.set_cons_zero, List.set_cons_succ]
      refine wpAnyH_take (i := 7) (oi := ⟨some 74, _, _, _, _, _⟩) (v := ?_) rfl (by kernel_rfl) (by kernel_rfl) (by kernel_rfl) (fun _ _ _ h => h) (Or.inl ⟨by rfl, ?_⟩) (by assumption) ?_
      rotate_left
      · (intro w hSw; (try dsimp only at hSw); go_simp; try with_reducible rfl)
      try simp only [Act.put, List.setIfInBounds_toArray, List.set_cons_zero, List.set_cons_succ]
      refine wpAnyH_take (i := 8) (oi := ⟨some 75, _, _, _, _, _⟩) (v := ?_) rfl (by kernel_rfl) (by kernel_rfl) (by kernel_rfl) (fun _ _ _ h => h) (Or.inl ⟨by rfl, ?_⟩) (by assumption) ?_
      rotate_left
      · (intro w hSw; (try dsimp only at hSw); go_simp; try with_reducible rfl)
      try simp only [Act.put, List.setIfInBounds_toArray, List.set_cons_zero, List.set_cons_succ]
      refine wpAnyH_take (i := 9) (oi := ⟨some 76, _, _, _, _, _⟩) (v := ?_) rfl (by kernel_rfl) (by kernel_rfl) (by kernel_rfl) (fun _ _ _ h => h) (Or.inl ⟨by rfl, ?_⟩) (by assumption) ?_
      rotate_left
      · (intro w hSw; (try dsimp only at hSw); go_simp; try with_reducible rfl)
      try simp only [Act.put, List.setIfInBounds_toArray, List.set_cons_zero, List.set_cons_succ]
      refine wpAnyH_ready (rs := [10]) (by kernel_rfl) (by simp) ?_
      refine AllReadyH.cons (o := ⟨some 77, _, _, _, _, _⟩) rfl (fun K hK => ?_) AllReadyH.nil
      have BW := hid hHeld.1.2.1
      go_simp
      refine hK.out _ _ (keepSix (o := 2) hs2 hHeld (grown_alloc _ _) (by simp) (hHeld.1.2.1.alloc hHeld.1.2.1.size _)) (fun hHeld => ?_)
      clear hK K
      try simp only [Act.put, List.setIfInBounds_toArray, List.set_cons_zero, List.set_cons_succ]
      refine wpAnyH_ready (rs := [11]) (by kernel_rfl) (by simp) ?_
      refine AllReadyH.cons (o := ⟨some 78, _, _, _, _, _⟩) rfl (fun K hK => ?_) AllReadyH.nil
      refine step_appO (w0 := W2) (wr := (wr.alloc (.cells #[.int .i64 (-3 * k), .int .i64 0] 86)).drew) rfl (.tmp 67) (.tmp 77) 73 rfl W2.heap.size 88 (.agg #[.int .i64 0, .int .i64 0, .int .i64 0, .int .i64 0, .int .i64 0, .int .i64 0]) 6 48 Try.underlying73 infoArc rfl (by decide) (.slice (some ⟨g, 0, none⟩) 1 cc) 1 _ (by first | rfl | simp [Act.eval]) OW.out #[.int .i64 (-3 * k), .int .i64 (0), .int .i64 (-(3 * k + 3 * m)), .int .i64 (4 * m), .int .i64 (-(3 * k + 3 * m)), .int .i64 (-(4 * m))] 1 1 (by first | rfl | simp [Act.eval]) rfl (by simp [Value.oneCell']) (by omega) BW.out.size BW.out ?_
      intro v1 w9 hown1 hbel1 hgr1 _
      refine hK.out _ _ (keepSix (o := 2) hs2 hHeld hgr1 hne1 hbel1) (fun hHeld => ?_)
      clear hK K
      try simp only [Act.put, List.setIfInBounds_toArray, List.set_cons_zero, List.set_cons_succ]
      refine wpAnyH_take (i := 12) (oi := ⟨some 10, _, _, _, _, _⟩) (v := ?_) rfl (by kernel_rfl) (by kernel_rfl) (by kernel_rfl) (fun _ _ _ h => h) (Or.inl ⟨by rfl, ?_⟩) (by assumption) ?_
      rotate_left
      · (intro w hSw; (try dsimp only at hSw); go_simp; try with_reducible rfl)
      try simp only [Act.put, List.setIfInBounds_toArray, List.set_cons_zero, List.set_cons_succ]
      refine wpAnyH_done (by kernel_rfl) ?_ _
      clear hHeld p0 p1 p2 p3 z0 z1 hl hgr1 hne1 hidx
      have HC := hid (ArcsAt.of (l := ovalL k m) (k := 1) rfl rfl hown1 hbel1)
      obtain ⟨g9, c9, rfl, -⟩ := own_form hown1 (by omega)
      clear hown1 hbel1
      go_wp2_with fail
      go_roundw
      case rel => exact ⟨2, by omega, by go_num, HC.out⟩
      case measure => simp [intOf]
    · have hidx : ∀ w', (Instr.index 171 (.agg #[.int .i64 0, .int .i64 (-4 * k), .int .i64 (-3 * k), .int .i64 0, .int .i64 0, .int .i64 (4 * k), .int .i64 (3 * k), .int .i64 0]) (.int .i64 2)).run Try.prog w' = .ok (.agg #[.int .i64 0, .int .i64 (4 * k)]) w' := fun w' => by kernel_rfl
      have u1 : IntKind.i64.wrap 3 = 3 := IntWalk.i64_in _ (by omega)
      have hz := HasC.new wr [.int .i64 0, .int .i64 (4 * k)] 86
      have hl := hz.1
      have z0 := hz.2 0 _ rfl
      have z1 := hz.2 1 _ rfl
      have p0 : (wr.alloc (.cells #[.int .i64 0, .int .i64 (4 * k)] 86)).cell? ⟨w.heap.size + 1, 4, none⟩ = some (.int .i64 (-(3 * k + 3 * m))) := ((below_trans HB.out (below_alloc wr (.cells #[.int .i64 0, .int .i64 (4 * k)] 86))).cell (p := ⟨w.heap.size + 1, 4, none⟩) hs2).trans (HP.out 4 _ rfl)
      have p1 : (wr.alloc (.cells #[.int .i64 0, .int .i64 (4 * k)] 86)).cell? ⟨w.heap.size + 1, 5, none⟩ = some (.int .i64 (-(4 * m))) := ((below_trans HB.out (below_alloc wr (.cells #[.int .i64 0, .int .i64 (4 * k)] 86))).cell (p := ⟨w.heap.size + 1, 5, none⟩) hs2).trans (HP.out 5 _ rfl)
      have p2 : (wr.alloc (.cells #[.int .i64 0, .int .i64 (4 * k)] 86)).cell? ⟨w.heap.size + 1, 6, none⟩ = some (.int .i64 (3 * k + 3 * m)) := ((below_trans HB.out (below_alloc wr (.cells #[.int .i64 0, .int .i64 (4 * k)] 86))).cell (p := ⟨w.heap.size + 1, 6, none⟩) hs2).trans (HP.out 6 _ rfl)
      have p3 : (wr.alloc (.cells #[.int .i64 0, .int .i64 (4 * k)] 86)).cell? ⟨w.heap.size + 1, 7, none⟩ = some (.int .i64 (-(4 * m))) := ((below_trans HB.out (below_alloc wr (.cells #[.int .i64 0, .int .i64 (4 * k)] 86))).cell (p := ⟨w.heap.size + 1, 7, none⟩) hs2).trans (HP.out 7 _ rfl)
      have OW := hid (own_below (own_below HO.out (below_alloc wr (.cells #[.int .i64 0, .int .i64 (4 * k)] 86))) (Below.refl _ _).drew)
      have hne1 : some wr.heap.size ≠ (Value.slice (some ⟨g, 0, none⟩) 2 cc).ownBlock := fun e => by
        have h1 := (HO.out.lt g rfl).2
        have h2 : some wr.heap.size = some g := e
        injection h2 with h2
        omega
      clear hz
      go_upto_region 10 with fail
      refine wp_region_held_drew (S := (fun w' => (True ∧ Below W2.heap.size W2 w' ∧ wr.heap.size < w'.heap.size) ∧ w'.cell? ⟨wr.heap.size, 0, none⟩ = some (.int .i64 0) ∧ w'.cell? ⟨wr.heap.size, 1, none⟩ = some (.int .i64 (4 * k)) ∧ w'.cell? ⟨w.heap.size + 1, 4, none⟩ = some (.int .i64 (-(3 * k + 3 * m))) ∧ w'.cell? ⟨w.heap.size + 1, 5, none⟩ = some (.int .i64 (-(4 * m))) ∧ w'.cell? ⟨w.heap.size + 1, 6, none⟩ = some (.int .i64 (3 * k + 3 * m)) ∧ w'.cell? ⟨w.heap.size + 1, 7, none⟩ = some (.int .i64 (-(4 * m))))) (by kernel_rfl) ⟨⟨trivial, (below_trans HB.out (below_alloc wr (.cells #[.int .i64 0, .int .i64 (4 * k)] 86))).drew, hl⟩, z0, z1, p0, p1, p2, p3⟩ (fun hHeld => ?_)
      refine wpAnyH_take (i := 0) (oi := ⟨some 67, _, _, _, _, _⟩) (v := ?_) rfl (by kernel_rfl) (by kernel_rfl) (by kernel_rfl) (fun _ _ _ h => h) (Or.inl ⟨by rfl, ?_⟩) (by assumption) ?_
      rotate_left
      · (intro w hSw; (try dsimp only at hSw); go_simp; try with_reducible rfl)
      try simp only [Act.put, List.setIfInBounds_toArray, List.set_cons_zero, List.set_cons_succ]
      refine wpAnyH_take (i := 1) (oi := ⟨some 68, _, _, _, _, _⟩) (v := ?_) rfl (by kernel_rfl) (by kernel_rfl) (by kernel_rfl) (fun _ _ _ h => h) (Or.inl ⟨by rfl, ?_⟩) (by assumption) ?_
      rotate_left
      · (intro w hSw; (try dsimp only at hSw); go_simp; try with_reducible rfl)
      try simp only [Act.put, List.setIfInBounds_toArray, List.set_cons_zero, List.set_cons_succ]
      refine wpAnyH_take (i := 2) (oi := ⟨some 69, _, _, _, _, _⟩) (v := ?_) rfl (by kernel_rfl) (by kernel_rfl) (by kernel_rfl) (fun _ _ _ h => h) (Or.inl ⟨by rfl, ?_⟩) (by assumption) ?_
      rotate_left
      · (intro w hSw; (try dsimp only at hSw); go_simp; try with_reducible rfl)
      try simp only [Act.put, List.setIfInBounds_toArray, List.set_cons_zero, List.set_cons_succ]
      refine wpAnyH_take (i := 3) (oi := ⟨some 70, _, _, _, _, _⟩) (v := ?_) rfl (by kernel_rfl) (by kernel_rfl) (by kernel_rfl) (fun _ _ _ h => h) (Or.inl ⟨by rfl, ?_⟩) (by assumption) ?_
      rotate_left
      · (intro w hSw; (try dsimp only at hSw); go_simp; try with_reducible rfl)
      try simp only [Act.put, List.setIfInBounds_toArray, List.set_cons_zero, List.set_cons_succ]
      refine wpAnyH_take (i := 4) (oi := ⟨some 71, _, _, _, _, _⟩) (v := ?_) rfl (by kernel_rfl) (by kernel_rfl) (by kernel_rfl) (fun _ _ _ h => h) (Or.inl ⟨by rfl, ?_⟩) (by assumption) ?_
      rotate_left
      · (intro w hSw; (try dsimp only at hSw); go_simp; try with_reducible rfl)
      try simp only [Act.put, List.setIfInBounds_toArray, List.set_cons_zero, List.set_cons_succ]
      refine wpAnyH_take (i := 5) (oi := ⟨some 72, _, _, _, _, _⟩) (v := ?_) rfl (by kernel_rfl) (by kernel_rfl) (by kernel_rfl) (fun _ _ _ h => h) (Or.inl ⟨by rfl, ?_⟩) (by assumption) ?_
      rotate_left
      · (intro w hSw; (try dsimp only at hSw); go_simp; try with_reducible rfl)
      try simp only [Act.put, List.setIfInBounds_toArray, List.set_cons_zero, List.set_cons_succ]
      refine wpAnyH_take (i := 6) (oi := ⟨some 73, _, _, _, _, _⟩) (v := ?_) rfl (by kernel_rfl) (by kernel_rfl) (by kernel_rfl) (fun _ _ _ h => h) (Or.inl ⟨by rfl, ?_⟩) (by assumption) ?_
      rotate_left
      · (intro w hSw; (try dsimp only at hSw); go_simp; try with_reducible rfl)
      try simp only [Act.put, List.setIfInBounds_toArray, List.set_cons_zero, List.set_cons_succ]
      refine wpAnyH_take (i := 7) (oi := ⟨some 74, _, _, _, _, _⟩) (v := ?_) rfl (by kernel_rfl) (by kernel_rfl) (by kernel_rfl) (fun _ _ _ h => h) (Or.inl ⟨by rfl, ?_⟩) (by assumption) ?_
      rotate_left
      · (intro w hSw; (try dsimp only at hSw); go_simp; try with_reducible rfl)
      try simp only [Act.put, List.setIfInBounds_toArray, List.set_cons_zero, List.set_cons_succ]
      refine wpAnyH_take (i := 8) (oi := ⟨some 75, _, _, _, _, _⟩) (v := ?_) rfl (by kernel_rfl) (by kernel_rfl) (by kernel_rfl) (fun _ _ _ h => h) (Or.inl ⟨by rfl, ?_⟩) (by assumption) ?_
      rotate_left
      · (intro w hSw; (try dsimp only at hSw); go_simp; try with_reducible rfl)
      try simp only [Act.put, List.setIfInBounds_toArray, List.set_cons_zero, List.set_cons_succ]
      refine wpAnyH_take (i := 9) (oi := ⟨some 76, _, _, _, _, _⟩) (v := ?_) rfl (by kernel_rfl) (by kernel_rfl) (by kernel_rfl) (fun _ _ _ h => h) (Or.inl ⟨by rfl, ?_⟩) (by assumption) ?_
      rotate_left
      · (intro w hSw; (try dsimp only at hSw); go_simp; try with_reducible rfl)
      try simp only [Act.put, List.setIfInBounds_toArray, List.set_cons_zero, List.set_cons_succ]
      refine wpAnyH_ready (rs := [10]) (by kernel_rfl) (by simp) ?_
      refine AllReadyH.cons (o := ⟨some 77, _, _, _, _, _⟩) rfl (fun K hK => ?_) AllReadyH.nil
      have BW := hid hHeld.1.2.1
      go_simp
      refine hK.out _ _ (keepSix (o := 4) hs2 hHeld (grown_alloc _ _) (by simp) (hHeld.1.2.1.alloc hHeld.1.2.1.size _)) (fun hHeld => ?_)
      clear hK K
      try simp only [Act.put, List.setIfInBounds_toArray, List.set_cons_zero, List.set_cons_succ]
      refine wpAnyH_ready (rs := [11]) (by kernel_rfl) (by simp) ?_
      refine AllReadyH.cons (o := ⟨some 78, _, _, _, _, _⟩) rfl (fun K hK => ?_) AllReadyH.nil
      refine step_appO (w0 := W2) (wr := (wr.alloc (.cells #[.int .i64 0, .int .i64 (4 * k)] 86)).drew) rfl (.tmp 67) (.tmp 77) 73 rfl W2.heap.size 88 (.agg #[.int .i64 0, .int .i64 0, .int .i64 0, .int .i64 0, .int .i64 0, .int .i64 0]) 6 48 Try.underlying73 infoArc rfl (by decide) (.slice (some ⟨g, 0, none⟩) 2 cc) 2 _ (by first | rfl | simp [Act.eval]) OW.out #[.int .i64 (0), .int .i64 (4 * k), .int .i64 (-(3 * k + 3 * m)), .int .i64 (-(4 * m)), .int .i64 (3 * k + 3 * m), .int .i64 (-(4 * m))] 1 1 (by first | rfl | simp [Act.eval]) rfl (by simp [Value.oneCell']) (by omega) BW.out.size BW.out ?_
      intro v1 w9 hown1 hbel1 hgr1 _
      refine hK.out _ _ (keepSix (o := 4) hs2 hHeld hgr1 hne1 hbel1) (fun hHeld => ?_)
      clear hK K
      try simp only [Act.put, List.setIfInBounds_toArray, List.set_cons_zero, List.set_cons_succ]
      refine wpAnyH_take (i := 12) (oi := ⟨some 10, _, _, _, _, _⟩) (v := ?_) rfl (by kernel_rfl) (by kernel_rfl) (by kernel_rfl) (fun _ _ _ h => h) (Or.inl ⟨by rfl, ?_⟩) (by assumption) ?_
      rotate_left
      · (intro w hSw; (try dsimp only at hSw); go_simp; try with_reducible rfl)
      try simp only [Act.put, List.setIfInBounds_toArray, List.set_cons_zero, List.set_cons_succ]
      refine wpAnyH_done (by kernel_rfl) ?_ _
      clear hHeld p0 p1 p2 p3 z0 z1 hl hgr1 hne1 hidx
      have HC := hid (ArcsAt.of (l := ovalL k m) (k := 2) rfl rfl hown1 hbel1)
      obtain ⟨g9, c9, rfl, -⟩ := own_form hown1 (by omega)
      clear hown1 hbel1
      go_wp2_with fail
      go_roundw
      case rel => exact ⟨3, by omega, by go_num, HC.out⟩
      case measure => simp [intOf]
    · have hidx : ∀ w', (Instr.index 171 (.agg #[.int .i64 0, .int .i64 (-4 * k), .int .i64 (-3 * k), .int .i64 0, .int .i64 0, .int .i64 (4 * k), .int .i64 (3 * k), .int .i64 0]) (.int .i64 3)).run Try.prog w' = .ok (.agg #[.int .i64 (3 * k), .int .i64 0]) w' := fun w' => by kernel_rfl
      have u1 : IntKind.i64.wrap 4 = 4 := IntWalk.i64_in _ (by omega)
      have hz := HasC.new wr [.int .i64 (3 * k), .int .i64 0] 86
      have hl := hz.1
      have z0 := hz.2 0 _ rfl
      have z1 := hz.2 1 _ rfl
      have p0 : (wr.alloc (.cells #[.int .i64 (3 * k), .int .i64 0] 86)).cell? ⟨w.heap.size + 1, 6, none⟩ = some (.int .i64 (3 * k + 3 * m)) := ((below_trans HB.out (below_alloc wr (.cells #[.int .i64 (3 * k), .int .i64 0] 86))).cell (p := ⟨w.heap.size + 1, 6, none⟩) hs2).trans (HP.out 6 _ rfl)
      have p1 : (wr.alloc (.cells #[.int .i64 (3 * k), .int .i64 0] 86)).cell? ⟨w.heap.size + 1, 7, none⟩ = some (.int .i64 (-(4 * m))) := ((below_trans HB.out (below_alloc wr (.cells #[.int .i64 (3 * k), .int .i64 0] 86))).cell (p := ⟨w.heap.size + 1, 7, none⟩) hs2).trans (HP.out 7 _ rfl)
      have p2 : (wr.alloc (.cells #[.int .i64 (3 * k), .int .i64 0] 86)).cell? ⟨w.heap.size + 1, 8, none⟩ = some (.int .i64 (3 * k + 3 * m)) := ((below_trans HB.out (below_alloc wr (.cells #[.int .i64 (3 * k), .int .i64 0] 86))).cell (p := ⟨w.heap.size + 1, 8, none⟩) hs2).trans (HP.out 8 _ rfl)
      have p3 : (wr.alloc (.cells #[.int .i64 (3 * k), .int .i64 0] 86)).cell? ⟨w.heap.size + 1, 9, none⟩ = some (.int .i64 (4 * m)) := ((below_trans HB.out (below_alloc wr (.cells #[.int .i64 (3 * k), .int .i64 0] 86))).cell (p := ⟨w.heap.size + 1, 9, none⟩) hs2).trans (HP.out 9 _ rfl)
      have OW := hid (own_below (own_below HO.out (below_alloc wr (.cells #[.int .i64 (3 * k), .int .i64 0] 86))) (Below.refl _ _).drew)
      have hne1 : some wr.heap.size ≠ (Value.slice (some ⟨g, 0, none⟩) 3 cc).ownBlock := fun e => by
        have h1 := (HO.out.lt g rfl).2
        have h2 : some wr.heap.size = some g := e
        injection h2 with h2
        omega
      clear hz
      go_upto_region 10 with fail
      refine wp_region_held_drew (S := (fun w' => (True ∧ Below W2.heap.size W2 w' ∧ wr.heap.size < w'.heap.size) ∧ w'.cell? ⟨wr.heap.size, 0, none⟩ = some (.int .i64 (3 * k)) ∧ w'.cell? ⟨wr.heap.size, 1, none⟩ = some (.int .i64 0) ∧ w'.cell? ⟨w.heap.size + 1, 6, none⟩ = some (.int .i64 (3 * k + 3 * m)) ∧ w'.cell? ⟨w.heap.size + 1, 7, none⟩ = some (.int .i64 (-(4 * m))) ∧ w'.cell? ⟨w.heap.size + 1, 8, none⟩ = some (.int .i64 (3 * k + 3 * m)) ∧ w'.cell? ⟨w.heap.size + 1, 9, none⟩ = some (.int .i64 (4 * m)))) (by kernel_rfl) ⟨⟨trivial, (below_trans HB.out (below_alloc wr (.cells #[.int .i64 (3 * k), .int .i64 0] 86))).drew, hl⟩, z0, z1, p0, p1, p2, p3⟩ (fun hHeld => ?_)
      refine wpAnyH_take (i := 0) (oi := ⟨some 67, _, _, _, _, _⟩) (v := ?_) rfl (by kernel_rfl) (by kernel_rfl) (by kernel_rfl) (fun _ _ _ h => h) (Or.inl ⟨by rfl, ?_⟩) (by assumption) ?_
      rotate_left
      · (intro w hSw; (try dsimp only at hSw); go_simp; try with_reducible rfl)
      try simp only [Act.put, List.setIfInBounds_toArray, List.set_cons_zero, List.set_cons_succ]
      refine wpAnyH_take (i := 1) (oi := ⟨some 68, _, _, _, _, _⟩) (v := ?_) rfl (by kernel_rfl) (by kernel_rfl) (by kernel_rfl) (fun _ _ _ h => h) (Or.inl ⟨by rfl, ?_⟩) (by assumption) ?_
      rotate_left
      · (intro w hSw; (try dsimp only at hSw); go_simp; try with_reducible rfl)
      try simp only [Act.put, List.setIfInBounds_toArray, List.set_cons_zero, List.set_cons_succ]
      refine wpAnyH_take (i := 2) (oi := ⟨some 69, _, _, _, _, _⟩) (v := ?_) rfl (by kernel_rfl) (by kernel_rfl) (by kernel_rfl) (fun _ _ _ h => h) (Or.inl ⟨by rfl, ?_⟩) (by assumption) ?_
      rotate_left
      · (intro w hSw; (try dsimp only at hSw); go_simp; try with_reducible rfl)
      try simp only [Act.put, List.setIfInBounds_toArray, List.set_cons_zero, List.set_cons_succ]
      refine wpAnyH_take (i := 3) (oi := ⟨some 70, _, _, _, _, _⟩) (v := ?_) rfl (by kernel_rfl) (by kernel_rfl) (by kernel_rfl) (fun _ _ _ h => h) (Or.inl ⟨by rfl, ?_⟩) (by assumption) ?_
      rotate_left
      · (intro w hSw; (try dsimp only at hSw); go_simp; try with_reducible rfl)
      try simp only [Act.put, List.setIfInBounds_toArray, List.set_cons_zero, List.set_cons_succ]
      refine wpAnyH_take (i := 4) (oi := ⟨some 71, _, _, _, _, _⟩) (v := ?_) rfl (by kernel_rfl) (by kernel_rfl) (by kernel_rfl) (fun _ _ _ h => h) (Or.inl ⟨by rfl, ?_⟩) (by assumption) ?_
      rotate_left
      · (intro w hSw; (try dsimp only at hSw); go_simp; try with_reducible rfl)
      try simp only [Act.put, List.setIfInBounds_toArray, List.set_cons_zero, List.set_cons_succ]
      refine wpAnyH_take (i := 5) (oi := ⟨some 72, _, _, _, _, _⟩) (v := ?_) rfl (by kernel_rfl) (by kernel_rfl) (by kernel_rfl) (fun _ _ _ h => h) (Or.inl ⟨by rfl, ?_⟩) (by assumption) ?_
      rotate_left
      · (intro w hSw; (try dsimp only at hSw); go_simp; try with_reducible rfl)
      try simp only [Act.put, List.setIfInBounds_toArray, List.set_cons_zero, List.set_cons_succ]
      refine wpAnyH_take (i := 6) (oi := ⟨some 73, _, _, _, _, _⟩) (v := ?_) rfl (by kernel_rfl) (by kernel_rfl) (by kernel_rfl) (fun _ _ _ h => h) (Or.inl ⟨by rfl, ?_⟩) (by assumption) ?_
      rotate_left
      · (intro w hSw; (try dsimp only at hSw); go_simp; try with_reducible rfl)
      try simp only [Act.put, List.setIfInBounds_toArray, List.set_cons_zero, List.set_cons_succ]
      refine wpAnyH_take (i := 7) (oi := ⟨some 74, _, _, _, _, _⟩) (v := ?_) rfl (by kernel_rfl) (by kernel_rfl) (by kernel_rfl) (fun _ _ _ h => h) (Or.inl ⟨by rfl, ?_⟩) (by assumption) ?_
      rotate_left
      · (intro w hSw; (try dsimp only at hSw); go_simp; try with_reducible rfl)
      try simp only [Act.put, List.setIfInBounds_toArray, List.set_cons_zero, List.set_cons_succ]
      refine wpAnyH_take (i := 8) (oi := ⟨some 75, _, _, _, _, _⟩) (v := ?_) rfl (by kernel_rfl) (by kernel_rfl) (by kernel_rfl) (fun _ _ _ h => h) (Or.inl ⟨by rfl, ?_⟩) (by assumption) ?_
      rotate_left
      · (intro w hSw; (try dsimp only at hSw); go_simp; try with_reducible rfl)
      try simp only [Act.put, List.setIfInBounds_toArray, List.set_cons_zero, List.set_cons_succ]
      refine wpAnyH_take (i := 9) (oi := ⟨some 76, _, _, _, _, _⟩) (v := ?_) rfl (by kernel_rfl) (by kernel_rfl) (by kernel_rfl) (fun _ _ _ h => h) (Or.inl ⟨by rfl, ?_⟩) (by assumption) ?_
      rotate_left
      · (intro w hSw; (try dsimp only at hSw); go_simp; try with_reducible rfl)
      try simp only [Act.put, List.setIfInBounds_toArray, List.set_cons_zero, List.set_cons_succ]
      refine wpAnyH_ready (rs := [10]) (by kernel_rfl) (by simp) ?_
      refine AllReadyH.cons (o := ⟨some 77, _, _, _, _, _⟩) rfl (fun K hK => ?_) AllReadyH.nil
      have BW := hid hHeld.1.2.1
      go_simp
      refine hK.out _ _ (keepSix (o := 6) hs2 hHeld (grown_alloc _ _) (by simp) (hHeld.1.2.1.alloc hHeld.1.2.1.size _)) (fun hHeld => ?_)
      clear hK K
      try simp only [Act.put, List.setIfInBounds_toArray, List.set_cons_zero, List.set_cons_succ]
      refine wpAnyH_ready (rs := [11]) (by kernel_rfl) (by simp) ?_
      refine AllReadyH.cons (o := ⟨some 78, _, _, _, _, _⟩) rfl (fun K hK => ?_) AllReadyH.nil
      refine step_appO (w0 := W2) (wr := (wr.alloc (.cells #[.int .i64 (3 * k), .int .i64 0] 86)).drew) rfl (.tmp 67) (.tmp 77) 73 rfl W2.heap.size 88 (.agg #[.int .i64 0, .int .i64 0, .int .i64 0, .int .i64 0, .int .i64 0, .int .i64 0]) 6 48 Try.underlying73 infoArc rfl (by decide) (.slice (some ⟨g, 0, none⟩) 3 cc) 3 _ (by first | rfl | simp [Act.eval]) OW.out #[.int .i64 (3 * k), .int .i64 (0), .int .i64 (3 * k + 3 * m), .int .i64 (-(4 * m)), .int .i64 (3 * k + 3 * m), .int .i64 (4 * m)] 1 1 (by first | rfl | simp [Act.eval]) rfl (by simp [Value.oneCell']) (by omega) BW.out.size BW.out ?_
      intro v1 w9 hown1 hbel1 hgr1 _
      refine hK.out _ _ (keepSix (o := 6) hs2 hHeld hgr1 hne1 hbel1) (fun hHeld => ?_)
      clear hK K
      try simp only [Act.put, List.setIfInBounds_toArray, List.set_cons_zero, List.set_cons_succ]
      refine wpAnyH_take (i := 12) (oi := ⟨some 10, _, _, _, _, _⟩) (v := ?_) rfl (by kernel_rfl) (by kernel_rfl) (by kernel_rfl) (fun _ _ _ h => h) (Or.inl ⟨by rfl, ?_⟩) (by assumption) ?_
      rotate_left
      · (intro w hSw; (try dsimp only at hSw); go_simp; try with_reducible rfl)
      try simp only [Act.put, List.setIfInBounds_toArray, List.set_cons_zero, List.set_cons_succ]
      refine wpAnyH_done (by kernel_rfl) ?_ _
      clear hHeld p0 p1 p2 p3 z0 z1 hl hgr1 hne1 hidx
      have HC := hid (ArcsAt.of (l := ovalL k m) (k := 3) rfl rfl hown1 hbel1)
      obtain ⟨g9, c9, rfl, -⟩ := own_form hown1 (by omega)
      clear hown1 hbel1
      go_wp2_with fail
      go_roundw
      case rel => exact ⟨4, by omega, by go_num, HC.out⟩
      case measure => simp [intOf]
    · go_wp2_with fail
      go_ret2
      exact ⟨g, cc, rfl, own_mono HO.out HB0.out.size, below_trans HB0.out HB.out⟩

set_option maxHeartbeats 1600000 in
set_option maxRecDepth 100000 in
theorem l05Oval_ok (k m : Int) (w : World) (hk : 0 ≤ k ∧ k ≤ 900) (hm : 1 ≤ m ∧ m ≤ 900) :
    Calls Try.prog 163 #[.int .i64 k, .int .i64 m] w fun e w' => ∃ g, e = .returned (.slice (some ⟨g, 0, none⟩) 4 4) ∧ w'.ownsRow w.heap.size 88 6 (.slice (some ⟨g, 0, none⟩) 4 4) 4 (arcV (ovalL k m)) ∧ Below w.heap.size w w' := by
  have v1 : IntKind.i64.wrap (3 * k) = 3 * k := IntWalk.i64_in _ (by omega)
  have v2 : IntKind.i64.wrap (3 * m) = 3 * m := IntWalk.i64_in _ (by omega)
  have v3 : IntKind.i64.wrap (3 * k + 3 * m) = 3 * k + 3 * m := IntWalk.i64_in _ (by omega)
  have v4 : IntKind.i64.wrap (4 * m) = 4 * m := IntWalk.i64_in _ (by omega)
  have v5 : IntKind.i64.wrap (-4 * k) = -4 * k := IntWalk.i64_in _ (by omega)
  have v6 : IntKind.i64.wrap (-3 * k) = -3 * k := IntWalk.i64_in _ (by omega)
  have v7 : IntKind.i64.wrap (4 * k) = 4 * k := IntWalk.i64_in _ (by omega)
  have v8 : IntKind.i64.wrap (-(3 * k + 3 * m)) = -(3 * k + 3 * m) := IntWalk.i64_in _ (by omega)
  have v9 : IntKind.i64.wrap (-(4 * m)) = -(4 * m) := IntWalk.i64_in _ (by omega)
  clear hk hm
  go_enter Try.func163, Try.ntmps163
  go_wp2_with fail
  refine (l05Arc_ok (0) (-4 * k) (3 * k + 3 * m) (4 * m) (-(3 * k + 3 * m)) (4 * m) _).mono ?_
  rintro e w1 ⟨rfl, hb⟩
  have B1 := hid (hb)
  clear hb
  go_wp2_with fail
  refine (l05Arc_ok (-3 * k) (0) (-(3 * k + 3 * m)) (4 * m) (-(3 * k + 3 * m)) (-(4 * m)) _).mono ?_
  rintro e w2 ⟨rfl, hb⟩
  have B2 := hid (below_trans B1.out hb)
  clear hb
  go_wp2_with fail
  refine (l05Arc_ok (0) (4 * k) (-(3 * k + 3 * m)) (-(4 * m)) (3 * k + 3 * m) (-(4 * m)) _).mono ?_
  rintro e w3 ⟨rfl, hb⟩
  have B3 := hid (below_trans B2.out hb)
  clear hb
  go_wp2_with fail
  refine (l05Arc_ok (3 * k) (0) (3 * k + 3 * m) (-(4 * m)) (3 * k + 3 * m) (4 * m) _).mono ?_
  rintro e w4 ⟨rfl, hb⟩
  have B4 := hid (below_trans B3.out hb)
  clear hb
  go_wp2_with fail
  go_ret
  exact ⟨_, rfl, own_mono (World.ownsRow_lit (base := w4.heap.size) w4 _ 4 (Nat.le_refl _) (by unfold maxLen; omega) rfl) B4.out.size, below_trans B4.out (below_alloc _ _)⟩

end Go.Proofs.Ytdbjbkdcmhekfaa
