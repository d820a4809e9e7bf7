/- FnBows: a part left out. -/
import Derived.Test.YtmfadjdpbobfhaaDoorBowC
namespace Go.Proofs.YtmfadjdpbobfhaaDoor
open Go.RowKit
set_option linter.unusedVariables false


set_option maxHeartbeats 1600000 in
set_option maxRecDepth 100000 in
theorem WithoutPart_ok (A : Option Addr) (cc n : Nat) (xs : List DPart) (w : World) (hA : RowsAt w 3 A (xs.map DPart.cells)) (hX : DrwB xs) (hn : xs.length = n) (hcap : n ≤ cc) (hcc : cc ≤ 9223372036854775807) (k : Nat) (x : DPart) (hk : xs[k]? = some x) :
    Calls Tryd.prog 45 #[.slice A n cc, .string x.fId] w (RetWo w n) := by
  have HA := hid hA
  have HX := hid hX
  have HN := hid hn
  have HK := hid hk
  obtain ⟨n1, n6⟩ := drwB_n hX hn
  have hkn : k < n := by rw [← hn]; exact (List.getElem?_eq_some_iff.1 hk).1
  have q2 : ¬ (k : Int) < 0 := by omega
  clear hA hX hn hk
  go_enter Tryd.func45, Tryd.ntmps45
  go_wp2_with fail
  refine (partOf_ok A cc n xs _ HA.out HX.out HN.out k x HK.out).mono ?_
  rintro e w1 ⟨rfl, hb1⟩
  have HB1 := hid hb1
  replace HA := hid (HA.out.below hb1)
  clear hb1
  go_wp2_with fail
  refine (ValidBow_ok A cc n xs _ HA.out HX.out HN.out).mono ?_
  rintro e w2 ⟨rfl, hb2⟩
  replace HA := hid (HA.out.below hb2)
  replace HB1 := hid (below_trans HB1.out hb2)
  clear hb2
  by_cases h1 : n = 1
  · have h1' : (n : Int) = 1 := by omega
    go_wp2_with fail
    go_ret2
    exact ⟨.inl ⟨h1, rfl⟩, HB1.out⟩
  have h1' : ¬ (n : Int) = 1 := by omega
  have h1c : ((n : Int) == 1) = false := by rw [beq_eq_false_iff_ne]; exact h1'
  obtain ⟨ab, ao, rfl, hAt⟩ := PartAt.of_rows HA.out HK.out
  have hlt := hAt.lt
  have q0 : (0 : Int) ≤ (k : Int) := by omega
  have q1 : (k : Int) ≤ cc := by omega
  have q3 : (0 : Int) ≤ (k : Int) + 1 := by omega
  have q4 : (k : Int) + 1 ≤ n := by omega
  have q5 : (n : Int) ≤ cc := by omega
  have vk : IntKind.i64.wrap ((k : Int) + 1) = (k : Int) + 1 := IntWalk.i64_in _ (by omega)
  clear hAt
  go_upto_region 8 with fail
  obtain ⟨W, hW⟩ : ∃ W, W = w2 := ⟨_, rfl⟩
  rw [← hW]
  rw [← hW] at hlt
  have HA2 := hid (show RowsAt W 3 (some ⟨ab, ao, none⟩) (xs.map DPart.cells) by rw [hW]; exact HA.out)
  have HBW := hid (show Below w.heap.size w W by rw [hW]; exact HB1.out)
  have HS1 := hid (show ∀ wb : World, Below W.heap.size W wb → SrcAt wb (some ⟨ab, ao, none⟩) ((partV xs).take (k * 3)) from fun wb hb => by
    have h := part_src (HA2.out.below hb) 0 (k * 3)
    rw [Nat.add_zero, List.drop_zero] at h
    exact h)
  clear hW HA
  by_cases hz : cc = k + 1
  · have hn2 : n = k + 1 := by omega
    subst hn2
    subst hz
    have q6 : (k : Int) ≤ (k : Int) + 1 := by omega
    have q7 : (k : Int) + 1 ≤ (k : Int) + 1 := by omega
    refine wp_region_held_drew (S := (fun w' => (True ∧ Below W.heap.size W w') ∧ True)) (by kernel_rfl) ⟨⟨trivial, (Below.refl _ _).drew⟩, trivial⟩ (fun hHeld => ?_)
    refine wpAnyH_take (i := 0) (oi := ⟨some 21, _, _, _, _, _⟩) (v := ?_) rfl (by kernel_rfl) (by kernel_rfl) (by kernel_rfl) (fun _ _ _ h => h) (Or.inl ⟨by rfl, ?_⟩) (by assumption) ?_
    rotate_left
    · (intro w hSw; (try dsimp only at hSw); go_simp; try with_reducible rfl)
    try simp only [Act.put, List.setIfInBounds_toArray, List.set_cons_zero, List.set_cons_succ]
    refine wpAnyH_take (i := 1) (oi := ⟨some 22, _, _, _, _, _⟩) (v := ?_) rfl (by kernel_rfl) (by kernel_rfl) (by kernel_rfl) (fun _ _ _ h => h) (Or.inl ⟨by rfl, ?_⟩) (by assumption) ?_
    rotate_left
    · (intro w hSw; (try dsimp only at hSw); go_simp; try with_reducible rfl)
    try simp only [Act.put, List.setIfInBounds_toArray, List.set_cons_zero, List.set_cons_succ]
    refine wpAnyH_take (i := 2) (oi := ⟨some 23, _, _, _, _, _⟩) (v := ?_) rfl (by kernel_rfl) (by kernel_rfl) (by kernel_rfl) (fun _ _ _ h => h) (Or.inl ⟨by rfl, ?_⟩) (by assumption) ?_
    rotate_left
    · (intro w hSw; (try dsimp only at hSw); go_simp; try with_reducible rfl)
    try simp only [Act.put, List.setIfInBounds_toArray, List.set_cons_zero, List.set_cons_succ]
    refine wpAnyH_take (i := 4) (oi := ⟨some 25, _, _, _, _, _⟩) (v := ?_) rfl (by kernel_rfl) (by kernel_rfl) (by kernel_rfl) (fun _ _ _ h => h) (Or.inl ⟨by rfl, ?_⟩) (by assumption) ?_
    rotate_left
    · (intro w hSw; (try dsimp only at hSw); go_simp; try with_reducible rfl)
    try simp only [Act.put, List.setIfInBounds_toArray, List.set_cons_zero, List.set_cons_succ]
    refine wpAnyH_take (i := 5) (oi := ⟨some 26, _, _, _, _, _⟩) (v := ?_) rfl (by kernel_rfl) (by kernel_rfl) (by kernel_rfl) (fun _ _ _ h => h) (Or.inl ⟨by rfl, ?_⟩) (by assumption) ?_
    rotate_left
    · (intro w hSw; (try dsimp only at hSw); go_simp; try with_reducible rfl)
    try simp only [Act.put, List.setIfInBounds_toArray, List.set_cons_zero, List.set_cons_succ]
    refine wpAnyH_take (i := 6) (oi := ⟨some 27, _, _, _, _, _⟩) (v := ?_) rfl (by kernel_rfl) (by kernel_rfl) (by kernel_rfl) (fun _ _ _ h => h) (Or.inl ⟨by rfl, ?_⟩) (by assumption) ?_
    rotate_left
    · (intro w hSw; (try dsimp only at hSw); go_simp; try with_reducible rfl)
    try simp only [Act.put, List.setIfInBounds_toArray, List.set_cons_zero, List.set_cons_succ]
    refine wpAnyH_take (i := 7) (oi := ⟨some 28, _, _, _, _, _⟩) (v := ?_) rfl (by kernel_rfl) (by kernel_rfl) (by kernel_rfl) (fun _ _ _ h => h) (Or.inl ⟨by rfl, ?_⟩) (by assumption) ?_
    rotate_left
    · (intro w hSw; (try dsimp only at hSw); go_simp; try with_reducible rfl)
    try simp only [Act.put, List.setIfInBounds_toArray, List.set_cons_zero, List.set_cons_succ]
    refine wpAnyH_ready (rs := [3]) (by kernel_rfl) (by simp) ?_
    refine AllReadyH.cons (o := ⟨some 24, _, _, _, _, _⟩) rfl (fun K hK => ?_) AllReadyH.nil
    go_simp
    go_at_call 91; refine (clonePart_ok ab ao k _ ((partV xs).take (k * 3)) _ (HS1.out _ hHeld.1.2) (by have := hHeld.1.2.size; omega) (by rw [List.length_take, partV_len, HN.out]; omega) (by omega) (fun u hu => partV_one xs u (List.mem_of_mem_take hu))).mono ?_; rintro e w6 ⟨A6, c6, rfl, ho6, hb6⟩; have O6 := hid ho6; have B6 := hid (below_trans hHeld.1.2 hb6)
    (try go_wp2_with fail)
    refine hK.out _ _ (⟨⟨trivial, below_trans hHeld.1.2 hb6⟩, trivial⟩) (fun hHeld => ?_)
    clear hK K
    try simp only [Act.put, List.setIfInBounds_toArray, List.set_cons_zero, List.set_cons_succ]
    refine wpAnyH_ready (rs := [8]) (by kernel_rfl) (by simp) ?_
    refine AllReadyH.cons (o := ⟨some 29, _, _, _, _, _⟩) rfl (fun K hK => ?_) AllReadyH.nil
    refine step_appS (w0 := W) rfl (.tmp 24) (.tmp 28) 61 rfl W.heap.size 39 (.agg #[.string ⟨#[]⟩, .int .i64 0, .int .i64 0]) 3 32 Tryd.underlying61 infoPart rfl (by decide) (.slice A6 k c6) k _ (by first | rfl | simp [Act.eval]) (own_mono O6.out (by simp)) _ 0 _ [] (by first | rfl | simp [Act.eval]) rfl (fun j u hu => by simp at hu) (fun u hu => by cases hu) (by omega) B6.out.size B6.out ?_
    intro v9 w9 hown9 hbel9
    obtain ⟨A9, c9, rfl⟩ := own_sliceP hown9
    refine hK.out _ _ (⟨⟨trivial, hbel9⟩, trivial⟩) (fun hHeld => ?_)
    clear hK K
    try simp only [Act.put, List.setIfInBounds_toArray, List.set_cons_zero, List.set_cons_succ]
    refine wpAnyH_take (i := 9) (oi := ⟨some 4, _, _, _, _, _⟩) (v := ?_) rfl (by kernel_rfl) (by kernel_rfl) (by kernel_rfl) (fun _ _ _ h => h) (Or.inl ⟨by rfl, ?_⟩) (by assumption) ?_
    rotate_left
    · (intro w hSw; (try dsimp only at hSw); go_simp; try with_reducible rfl)
    try simp only [Act.put, List.setIfInBounds_toArray, List.set_cons_zero, List.set_cons_succ]
    refine wpAnyH_take (i := 10) (oi := ⟨some 5, _, _, _, _, _⟩) (v := ?_) rfl (by kernel_rfl) (by kernel_rfl) (by kernel_rfl) (fun _ _ _ h => h) (Or.inl ⟨by rfl, ?_⟩) (by assumption) ?_
    rotate_left
    · (intro w hSw; (try dsimp only at hSw); go_simp; try with_reducible rfl)
    try simp only [Act.put, List.setIfInBounds_toArray, List.set_cons_zero, List.set_cons_succ]
    refine wpAnyH_done (by kernel_rfl) ?_ _
    obtain ⟨⟨-, hb⟩, -⟩ := hHeld
    have HB9 := hid (below_trans HBW.out hb)
    clear hb hbel9 hown9
    go_wp2_with fail
    go_ret2
    exact ⟨.inr ⟨by omega, A9, c9, rfl⟩, HB9.out⟩
  · have HS2 := hid (show ∀ wb : World, Below W.heap.size W wb → SrcAt wb (some ⟨ab, ao + (k + 1) * 3, none⟩) (((partV xs).drop ((k + 1) * 3)).take ((n - (k + 1)) * 3)) from fun wb hb => part_src (HA2.out.below hb) ((k + 1) * 3) _)
    refine wp_region_held_drew (S := (fun w' => (True ∧ Below W.heap.size W w') ∧ True)) (by kernel_rfl) ⟨⟨trivial, (Below.refl _ _).drew⟩, trivial⟩ (fun hHeld => ?_)
    refine wpAnyH_take (i := 0) (oi := ⟨some 21, _, _, _, _, _⟩) (v := ?_) rfl (by kernel_rfl) (by kernel_rfl) (by kernel_rfl) (fun _ _ _ h => h) (Or.inl ⟨by rfl, ?_⟩) (by assumption) ?_
    rotate_left
    · (intro w hSw; (try dsimp only at hSw); go_simp; try with_reducible rfl)
    try simp only [Act.put, List.setIfInBounds_toArray, List.set_cons_zero, List.set_cons_succ]
    refine wpAnyH_take (i := 1) (oi := ⟨some 22, _, _, _, _, _⟩) (v := ?_) rfl (by kernel_rfl) (by kernel_rfl) (by kernel_rfl) (fun _ _ _ h => h) (Or.inl ⟨by rfl, ?_⟩) (by assumption) ?_
    rotate_left
    · (intro w hSw; (try dsimp only at hSw); go_simp; try with_reducible rfl)
    try simp only [Act.put, List.setIfInBounds_toArray, List.set_cons_zero, List.set_cons_succ]
    refine wpAnyH_take (i := 2) (oi := ⟨some 23, _, _, _, _, _⟩) (v := ?_) rfl (by kernel_rfl) (by kernel_rfl) (by kernel_rfl) (fun _ _ _ h => h) (Or.inl ⟨by rfl, ?_⟩) (by assumption) ?_
    rotate_left
    · (intro w hSw; (try dsimp only at hSw); go_simp; try with_reducible rfl)
    try simp only [Act.put, List.setIfInBounds_toArray, List.set_cons_zero, List.set_cons_succ]
    refine wpAnyH_take (i := 4) (oi := ⟨some 25, _, _, _, _, _⟩) (v := ?_) rfl (by kernel_rfl) (by kernel_rfl) (by kernel_rfl) (fun _ _ _ h => h) (Or.inl ⟨by rfl, ?_⟩) (by assumption) ?_
    rotate_left
    · (intro w hSw; (try dsimp only at hSw); go_simp; try with_reducible rfl)
    try simp only [Act.put, List.setIfInBounds_toArray, List.set_cons_zero, List.set_cons_succ]
    refine wpAnyH_take (i := 5) (oi := ⟨some 26, _, _, _, _, _⟩) (v := ?_) rfl (by kernel_rfl) (by kernel_rfl) (by kernel_rfl) (fun _ _ _ h => h) (Or.inl ⟨by rfl, ?_⟩) (by assumption) ?_
    rotate_left
    · (intro w hSw; (try dsimp only at hSw); go_simp; try with_reducible rfl)
    try simp only [Act.put, List.setIfInBounds_toArray, List.set_cons_zero, List.set_cons_succ]
    refine wpAnyH_take (i := 6) (oi := ⟨some 27, _, _, _, _, _⟩) (v := ?_) rfl (by kernel_rfl) (by kernel_rfl) (by kernel_rfl) (fun _ _ _ h => h) (Or.inl ⟨by rfl, ?_⟩) (by assumption) ?_
    rotate_left
    · (intro w hSw; (try dsimp only at hSw); go_simp; try with_reducible rfl)
    try simp only [Act.put, List.setIfInBounds_toArray, List.set_cons_zero, List.set_cons_succ]
    refine wpAnyH_take (i := 7) (oi := ⟨some 28, _, _, _, _, _⟩) (v := ?_) rfl (by kernel_rfl) (by kernel_rfl) (by kernel_rfl) (fun _ _ _ h => h) (Or.inl ⟨by rfl, ?_⟩) (by assumption) ?_
    rotate_left
    · (intro w hSw; (try dsimp only at hSw); go_simp; try with_reducible rfl)
    try simp only [Act.put, List.setIfInBounds_toArray, List.set_cons_zero, List.set_cons_succ]
    refine wpAnyH_ready (rs := [3]) (by kernel_rfl) (by simp) ?_
    refine AllReadyH.cons (o := ⟨some 24, _, _, _, _, _⟩) rfl (fun K hK => ?_) AllReadyH.nil
    go_simp
    go_at_call 91; refine (clonePart_ok ab ao k _ ((partV xs).take (k * 3)) _ (HS1.out _ hHeld.1.2) (by have := hHeld.1.2.size; omega) (by rw [List.length_take, partV_len, HN.out]; omega) (by omega) (fun u hu => partV_one xs u (List.mem_of_mem_take hu))).mono ?_; rintro e w6 ⟨A6, c6, rfl, ho6, hb6⟩; have O6 := hid ho6; have B6 := hid (below_trans hHeld.1.2 hb6)
    (try go_wp2_with fail)
    refine hK.out _ _ (⟨⟨trivial, below_trans hHeld.1.2 hb6⟩, trivial⟩) (fun hHeld => ?_)
    clear hK K
    try simp only [Act.put, List.setIfInBounds_toArray, List.set_cons_zero, List.set_cons_succ]
    refine wpAnyH_ready (rs := [8]) (by kernel_rfl) (by simp) ?_
    refine AllReadyH.cons (o := ⟨some 29, _, _, _, _, _⟩) rfl (fun K hK => ?_) AllReadyH.nil
    refine step_appS (w0 := W) rfl (.tmp 24) (.tmp 28) 61 rfl W.heap.size 39 (.agg #[.string ⟨#[]⟩, .int .i64 0, .int .i64 0]) 3 32 Tryd.underlying61 infoPart rfl (by decide) (.slice A6 k c6) k _ (by first | rfl | simp [Act.eval]) (own_mono O6.out (by simp)) ⟨ab, ao + (k + 1) * 3, none⟩ (n - (k + 1)) (cc - (k + 1)) (((partV xs).drop ((k + 1) * 3)).take ((n - (k + 1)) * 3)) (by first | rfl | simp [Act.eval]) (by rw [List.length_take, List.length_drop, partV_len, HN.out]; omega) (src_news (HS2.out _ B6.out)) (fun u hu => partV_one xs u (List.mem_of_mem_drop (List.mem_of_mem_take hu))) (by omega) B6.out.size B6.out ?_
    intro v9 w9 hown9 hbel9
    obtain ⟨A9, c9, rfl⟩ := own_sliceP hown9
    refine hK.out _ _ (⟨⟨trivial, hbel9⟩, trivial⟩) (fun hHeld => ?_)
    clear hK K
    try simp only [Act.put, List.setIfInBounds_toArray, List.set_cons_zero, List.set_cons_succ]
    refine wpAnyH_take (i := 9) (oi := ⟨some 4, _, _, _, _, _⟩) (v := ?_) rfl (by kernel_rfl) (by kernel_rfl) (by kernel_rfl) (fun _ _ _ h => h) (Or.inl ⟨by rfl, ?_⟩) (by assumption) ?_
    rotate_left
    · (intro w hSw; (try dsimp only at hSw); go_simp; try with_reducible rfl)
    try simp only [Act.put, List.setIfInBounds_toArray, List.set_cons_zero, List.set_cons_succ]
    refine wpAnyH_take (i := 10) (oi := ⟨some 5, _, _, _, _, _⟩) (v := ?_) rfl (by kernel_rfl) (by kernel_rfl) (by kernel_rfl) (fun _ _ _ h => h) (Or.inl ⟨by rfl, ?_⟩) (by assumption) ?_
    rotate_left
    · (intro w hSw; (try dsimp only at hSw); go_simp; try with_reducible rfl)
    try simp only [Act.put, List.setIfInBounds_toArray, List.set_cons_zero, List.set_cons_succ]
    refine wpAnyH_done (by kernel_rfl) ?_ _
    obtain ⟨⟨-, hb⟩, -⟩ := hHeld
    have HB9 := hid (below_trans HBW.out hb)
    have hlen : k + (n - (k + 1)) = n - 1 := by omega
    rw [hlen]
    clear hb hbel9 hown9 hlen
    go_wp2_with fail
    go_ret2
    exact ⟨.inr ⟨by omega, A9, c9, rfl⟩, HB9.out⟩

end Go.Proofs.YtmfadjdpbobfhaaDoor
