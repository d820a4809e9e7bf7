/- The law FnExactPutGood. -/
import Derived.Test.YtjeklbhdngkngaaPutGoodS
import Derived.Test.YtjeklbhdngkngaaKeepM
namespace Go.Proofs.Ytjeklbhdngkngaa
open Go.RowKit
set_option linter.unusedVariables false

set_option maxHeartbeats 3200000 in
set_option maxRecDepth 100000 in
theorem lawPutGood_ok (A_xs : Option Addr) (c_xs : Nat) (xs : List DGood) (x : DGood) (w : World) (h_xs : RowsAt w 4 A_xs (xs.map DGood.cells)) (hk_xs : ∀ x ∈ xs, x.ok) (hn_xs : xs.length ≤ maxLen) (hk_x : x.ok)  :
    Calls Try.prog 9 #[.slice A_xs xs.length c_xs, .agg #[.string x.fId, .int .i64 x.fCount, .int .i64 x.fLeast, .int .i64 x.fPrice]] w fun e w' => e = .returned (.bool true) ∧ Below w.heap.size w w' := by
  have H_xs := hid h_xs
  have HK_xs := hid hk_xs
  clear h_xs hk_xs
  have HK_x := hid hk_x
  clear hk_x
  have S1 := hid (show w.heap.size ≤ (w.alloc (.cells #[.string x.fId, .int .i64 x.fCount, .int .i64 x.fLeast, .int .i64 x.fPrice] 79)).heap.size from (below_alloc w _).size)
  have B_0 := hid (below_alloc w (.cells #[.string x.fId, .int .i64 x.fCount, .int .i64 x.fLeast, .int .i64 x.fPrice] 79))
  have X_x := hid (HasC.new w [.string x.fId, .int .i64 x.fCount, .int .i64 x.fLeast, .int .i64 x.fPrice] 79)
  go_enter Try.func9, Try.ntmps9
  have X_xc0 := X_x.out.2 0 _ rfl
  have X_xc1 := X_x.out.2 1 _ rfl
  have X_xc2 := X_x.out.2 2 _ rfl
  have X_xc3 := X_x.out.2 3 _ rfl
  go_wp2_with fail
  refine (szGoodS_ok A_xs c_xs xs _ _ (H_xs.out.up B_0.out (Nat.le_refl _)) HK_xs.out hn_xs (by omega) (by omega)).mono ?_
  rintro e w2 ⟨⟨z_xs, rfl, z1_xs, z2_xs, z3_xs⟩, hb⟩
  have Z_xs := hid z3_xs
  clear z3_xs
  have S2 := hid (show (w.alloc (.cells #[.string x.fId, .int .i64 x.fCount, .int .i64 x.fLeast, .int .i64 x.fPrice] 79)).heap.size ≤ w2.heap.size from hb.size)
  have B_2 := hid (below_trans B_0.out hb)
  have X_x_2 := hid (X_x.out.below hb)
  clear B_0 X_x hb X_xc0 X_xc1 X_xc2 X_xc3
  have X_xc0 := X_x_2.out.2 0 _ rfl
  have X_xc1 := X_x_2.out.2 1 _ rfl
  have X_xc2 := X_x_2.out.2 2 _ rfl
  have X_xc3 := X_x_2.out.2 3 _ rfl
  go_wp2_with fail
  · go_ret
    exact ⟨rfl, B_2.out⟩
  have hn2_xs : xs.length ≤ 1048576 := by have := Z_xs.out ‹_›; omega
  clear Z_xs
  refine (szGood_ok x _ _ HK_x.out (by omega) (by omega)).mono ?_
  rintro e w3 ⟨⟨z_x, rfl, z1_x, z2_x⟩, hb⟩
  have S3 := hid (show w2.heap.size ≤ w3.heap.size from hb.size)
  have B_3 := hid (below_trans B_2.out hb)
  have X_x_3 := hid (X_x_2.out.below hb)
  clear B_2 X_x_2 hb X_xc0 X_xc1 X_xc2 X_xc3
  have X_xc0 := X_x_3.out.2 0 _ rfl
  have X_xc1 := X_x_3.out.2 1 _ rfl
  have X_xc2 := X_x_3.out.2 2 _ rfl
  have X_xc3 := X_x_3.out.2 3 _ rfl
  go_wp2_with fail
  · go_ret
    exact ⟨rfl, B_3.out⟩
  have hl3 : w.heap.size < w3.heap.size := X_x_3.out.1
  have hbd : Below w3.heap.size w3 w3.drew := (Below.refl _ _).drew
  have S4 := hid (show w3.heap.size ≤ w3.drew.heap.size from hbd.size)
  have B_4 := hid (below_trans B_3.out hbd)
  have X_x_4 := hid (X_x_3.out.below hbd)
  clear B_3 X_x_3 hbd
  refine wp_region_held_drew (S := (fun w' => (True ∧ Below w3.heap.size w3 w') ∧ w'.cell? ⟨w.heap.size, 0, none⟩ = some (.string x.fId) ∧ w'.cell? ⟨w.heap.size, 1, none⟩ = some (.int .i64 x.fCount) ∧ w'.cell? ⟨w.heap.size, 2, none⟩ = some (.int .i64 x.fLeast) ∧ w'.cell? ⟨w.heap.size, 3, none⟩ = some (.int .i64 x.fPrice))) (by kernel_rfl) ⟨⟨trivial, (Below.refl _ _).drew⟩, X_xc0, X_xc1, X_xc2, X_xc3⟩ (fun hHeld => ?_)
  refine wpAnyH_take (i := 0) (oi := ⟨some 27, _, _, _, _, _⟩) (v := ?_) rfl (by kernel_rfl) (by kernel_rfl) (by kernel_rfl) (fun _ _ _ h => h) (Or.inl ⟨by rfl, ?_⟩) (by assumption) ?_
  rotate_left
  · (intro w hSw; (try dsimp only at hSw); go_simp; try with_reducible rfl)
  try simp only [Act.put, List.setIfInBounds_toArray, List.set_cons_zero, List.set_cons_succ]
  refine wpAnyH_take (i := 2) (oi := ⟨some 29, _, _, _, _, _⟩) (v := ?_) rfl (by kernel_rfl) (by kernel_rfl) (by kernel_rfl) (fun _ _ _ h => h) (Or.inl ⟨by rfl, ?_⟩) (by assumption) ?_
  rotate_left
  · (intro w hSw; (try dsimp only at hSw); go_simp; try with_reducible rfl)
  try simp only [Act.put, List.setIfInBounds_toArray, List.set_cons_zero, List.set_cons_succ]
  refine wpAnyH_ready (rs := [1]) (by kernel_rfl) (by simp) ?_
  refine AllReadyH.cons (o := ⟨some 28, _, _, _, _, _⟩) rfl (fun K hK => ?_) AllReadyH.nil
  go_simp
  refine (toGoodS_ok A_xs c_xs xs _ (H_xs.out.up B_4.out (Nat.le_refl _)) hn2_xs).mono ?_; rintro e w5 ⟨g5, rfl, ho, hb⟩
  (try go_wp2_with fail)
  refine hK.out _ _ (keepM4 hl3 hl3 hl3 hl3 ‹_ ∧ _› hb) (fun hHeld => ?_)
  clear hK K
  have S5 := hid (show w3.drew.heap.size ≤ w5.heap.size from hb.size)
  have B_5 := hid (below_trans B_4.out hb)
  have X_x_5 := hid (X_x_4.out.below hb)
  clear B_4 X_x_4 hb
  have O_s_xs := hid ho
  have OE_s_xs := hid (own_lt ho)
  clear ho
  try simp only [Act.put, List.setIfInBounds_toArray, List.set_cons_zero, List.set_cons_succ]
  refine wpAnyH_ready (rs := [3]) (by kernel_rfl) (by simp) ?_
  refine AllReadyH.cons (o := ⟨some 30, _, _, _, _, _⟩) rfl (fun K hK => ?_) AllReadyH.nil
  go_simp
  refine (toGood_ok x _).mono ?_; rintro e w6 ⟨rfl, hb⟩
  (try go_wp2_with fail)
  refine hK.out _ _ (keepM4 hl3 hl3 hl3 hl3 ‹_ ∧ _› hb) (fun hHeld => ?_)
  clear hK K
  have S6 := hid (show w5.heap.size ≤ w6.heap.size from hb.size)
  have B_6 := hid (below_trans B_5.out hb)
  have X_x_6 := hid (X_x_5.out.below hb)
  have O_s_xs_6 := hid (own_below O_s_xs.out hb)
  clear B_5 X_x_5 O_s_xs hb
  try simp only [Act.put, List.setIfInBounds_toArray, List.set_cons_zero, List.set_cons_succ]
  refine wpAnyH_ready (rs := [4]) (by kernel_rfl) (by simp) ?_
  refine AllReadyH.cons (o := ⟨some 31, _, _, _, _, _⟩) rfl (fun K hK => ?_) AllReadyH.nil
  go_simp
  refine (specPutGood_ok _ xs x _ (rows_own O_s_xs_6.out (by simp) (cellsGood_len _)) HK_xs.out hn2_xs HK_x.out ).mono ?_; rintro e w7 ⟨A7, c7, rfl, ho, hno7, hb⟩
  (try go_wp2_with fail)
  refine hK.out _ _ (keepM4 hl3 hl3 hl3 hl3 ‹_ ∧ _› hb) (fun hHeld => ?_)
  clear hK K
  have S7 := hid (show w6.heap.size ≤ w7.heap.size from hb.size)
  have B_7 := hid (below_trans B_6.out hb)
  have X_x_7 := hid (X_x_6.out.below hb)
  clear B_6 X_x_6 hb
  have R_spec := hid ho
  have RE_spec := hid (own_lt ho)
  clear ho
  try simp only [Act.put, List.setIfInBounds_toArray, List.set_cons_zero, List.set_cons_succ]
  refine wpAnyH_take (i := 5) (oi := ⟨some 26, _, _, _, _, _⟩) (v := ?_) rfl (by kernel_rfl) (by kernel_rfl) (by kernel_rfl) (fun _ _ _ h => h) (Or.inl ⟨by rfl, ?_⟩) (by assumption) ?_
  rotate_left
  · (intro w hSw; (try dsimp only at hSw); go_simp; try with_reducible rfl)
  try simp only [Act.put, List.setIfInBounds_toArray, List.set_cons_zero, List.set_cons_succ]
  refine wpAnyH_take (i := 6) (oi := ⟨some 32, _, _, _, _, _⟩) (v := ?_) rfl (by kernel_rfl) (by kernel_rfl) (by kernel_rfl) (fun _ _ _ h => h) (Or.inl ⟨by rfl, ?_⟩) (by assumption) ?_
  rotate_left
  · (intro w hSw; (try dsimp only at hSw); go_simp; try with_reducible rfl)
  try simp only [Act.put, List.setIfInBounds_toArray, List.set_cons_zero, List.set_cons_succ]
  refine wpAnyH_take (i := 7) (oi := ⟨some 33, _, _, _, _, _⟩) (v := ?_) rfl (by kernel_rfl) (by kernel_rfl) (by kernel_rfl) (fun _ _ _ h => h) (Or.inl ⟨by rfl, ?_⟩) (by assumption) ?_
  rotate_left
  · (intro w hSw; (try dsimp only at hSw); go_simp; try with_reducible rfl)
  try simp only [Act.put, List.setIfInBounds_toArray, List.set_cons_zero, List.set_cons_succ]
  refine wpAnyH_take (i := 8) (oi := ⟨some 6, _, _, _, _, _⟩) (v := ?_) rfl (by kernel_rfl) (by kernel_rfl) (by kernel_rfl) (fun _ _ _ h => h) (Or.inl ⟨by rfl, ?_⟩) (by assumption) ?_
  rotate_left
  · (intro w hSw; (try dsimp only at hSw); go_simp; try with_reducible rfl)
  try simp only [Act.put, List.setIfInBounds_toArray, List.set_cons_zero, List.set_cons_succ]
  refine wpAnyH_take (i := 9) (oi := ⟨some 7, _, _, _, _, _⟩) (v := ?_) rfl (by kernel_rfl) (by kernel_rfl) (by kernel_rfl) (fun _ _ _ h => h) (Or.inl ⟨by rfl, ?_⟩) (by assumption) ?_
  rotate_left
  · (intro w hSw; (try dsimp only at hSw); go_simp; try with_reducible rfl)
  try simp only [Act.put, List.setIfInBounds_toArray, List.set_cons_zero, List.set_cons_succ]
  refine wpAnyH_done (by kernel_rfl) ?_ _
  clear X_xc0 X_xc1 X_xc2 X_xc3
  have X_xc0 := X_x_7.out.2 0 _ rfl
  have X_xc1 := X_x_7.out.2 1 _ rfl
  have X_xc2 := X_x_7.out.2 2 _ rfl
  have X_xc3 := X_x_7.out.2 3 _ rfl
  go_wp2_with fail
  refine (toGoodS_ok A_xs c_xs xs _ (H_xs.out.up B_7.out (Nat.le_refl _)) hn2_xs).mono ?_
  rintro e w8 ⟨g8, rfl, ho, hb⟩
  have S8 := hid (show w7.heap.size ≤ w8.heap.size from hb.size)
  have B_8 := hid (below_trans B_7.out hb)
  have X_x_8 := hid (X_x_7.out.below hb)
  have R_spec_8 := hid (own_below R_spec.out hb)
  clear B_7 X_x_7 R_spec hb X_xc0 X_xc1 X_xc2 X_xc3
  have O_x_xs := hid ho
  have OE_x_xs := hid (own_lt ho)
  clear ho
  have X_xc0 := X_x_8.out.2 0 _ rfl
  have X_xc1 := X_x_8.out.2 1 _ rfl
  have X_xc2 := X_x_8.out.2 2 _ rfl
  have X_xc3 := X_x_8.out.2 3 _ rfl
  go_wp2_with fail
  refine (toGood_ok x _).mono ?_
  rintro e w9 ⟨rfl, hb⟩
  have S9 := hid (show w8.heap.size ≤ w9.heap.size from hb.size)
  have B_9 := hid (below_trans B_8.out hb)
  have X_x_9 := hid (X_x_8.out.below hb)
  have R_spec_9 := hid (own_below R_spec_8.out hb)
  have O_x_xs_9 := hid (own_below O_x_xs.out hb)
  clear B_8 X_x_8 R_spec_8 O_x_xs hb X_xc0 X_xc1 X_xc2 X_xc3
  have X_xc0 := X_x_9.out.2 0 _ rfl
  have X_xc1 := X_x_9.out.2 1 _ rfl
  have X_xc2 := X_x_9.out.2 2 _ rfl
  have X_xc3 := X_x_9.out.2 3 _ rfl
  go_wp2_with fail
  refine (implPutGood_ok _ xs x _ (rows_own O_x_xs_9.out (by simp) (cellsGood_len _)) HK_xs.out hn2_xs HK_x.out ).mono ?_
  rintro e w10 ⟨A10, c10, rfl, ho, hno10, hb⟩
  have S10 := hid (show w9.heap.size ≤ w10.heap.size from hb.size)
  have B_10 := hid (below_trans B_9.out hb)
  have X_x_10 := hid (X_x_9.out.below hb)
  have R_spec_10 := hid (own_below R_spec_9.out hb)
  have O_x_xs_10 := hid (own_below O_x_xs_9.out hb)
  clear B_9 X_x_9 R_spec_9 O_x_xs_9 hb X_xc0 X_xc1 X_xc2 X_xc3
  have R_impl0 := hid ho
  have RE_impl0 := hid (own_lt ho)
  clear ho
  have X_xc0 := X_x_10.out.2 0 _ rfl
  have X_xc1 := X_x_10.out.2 1 _ rfl
  have X_xc2 := X_x_10.out.2 2 _ rfl
  have X_xc3 := X_x_10.out.2 3 _ rfl
  go_wp2_with fail
  have hrl : (fPutGood xs x).1.length ≤ 1048576 := by have := fPutGood_small xs x; omega
  refine (eqGoodS_same _ _ _ _ (fPutGood xs x).1 _ (rows_own R_impl0.out (by simp) (cellsGood_len _)) (rows_own R_spec_10.out (by simp) (cellsGood_len _)) hrl).mono ?_
  rintro e w11 ⟨rfl, hb⟩
  have S11 := hid (show w10.heap.size ≤ w11.heap.size from hb.size)
  have B_11 := hid (below_trans B_10.out hb)
  have X_x_11 := hid (X_x_10.out.below hb)
  have R_spec_11 := hid (own_below R_spec_10.out hb)
  have O_x_xs_11 := hid (own_below O_x_xs_10.out hb)
  have R_impl0_11 := hid (own_below R_impl0.out hb)
  clear B_10 X_x_10 R_spec_10 O_x_xs_10 R_impl0 hb X_xc0 X_xc1 X_xc2 X_xc3
  have X_xc0 := X_x_11.out.2 0 _ rfl
  have X_xc1 := X_x_11.out.2 1 _ rfl
  have X_xc2 := X_x_11.out.2 2 _ rfl
  have X_xc3 := X_x_11.out.2 3 _ rfl
  go_wp2_with fail
  refine (toGoodS_ok A_xs c_xs xs _ (H_xs.out.up B_11.out (Nat.le_refl _)) hn2_xs).mono ?_
  rintro e w12 ⟨g12, rfl, ho, hb⟩
  have S12 := hid (show w11.heap.size ≤ w12.heap.size from hb.size)
  have B_12 := hid (below_trans B_11.out hb)
  have X_x_12 := hid (X_x_11.out.below hb)
  have R_spec_12 := hid (own_below R_spec_11.out hb)
  have O_x_xs_12 := hid (own_below O_x_xs_11.out hb)
  have R_impl0_12 := hid (own_below R_impl0_11.out hb)
  clear B_11 X_x_11 R_spec_11 O_x_xs_11 R_impl0_11 hb X_xc0 X_xc1 X_xc2 X_xc3
  have O_y_xs := hid ho
  have OE_y_xs := hid (own_lt ho)
  clear ho
  have X_xc0 := X_x_12.out.2 0 _ rfl
  have X_xc1 := X_x_12.out.2 1 _ rfl
  have X_xc2 := X_x_12.out.2 2 _ rfl
  have X_xc3 := X_x_12.out.2 3 _ rfl
  go_wp2_with fail
  refine (eqGoodS_same _ _ _ _ xs _ (rows_own O_x_xs_12.out (by simp) (cellsGood_len _)) (rows_own O_y_xs.out (by simp) (cellsGood_len _)) hn2_xs).mono ?_
  rintro e w13 ⟨rfl, hb⟩
  have S13 := hid (show w12.heap.size ≤ w13.heap.size from hb.size)
  have B_13 := hid (below_trans B_12.out hb)
  have X_x_13 := hid (X_x_12.out.below hb)
  have R_spec_13 := hid (own_below R_spec_12.out hb)
  have O_x_xs_13 := hid (own_below O_x_xs_12.out hb)
  have R_impl0_13 := hid (own_below R_impl0_12.out hb)
  clear B_12 X_x_12 R_spec_12 O_x_xs_12 R_impl0_12 hb X_xc0 X_xc1 X_xc2 X_xc3
  have X_xc0 := X_x_13.out.2 0 _ rfl
  have X_xc1 := X_x_13.out.2 1 _ rfl
  have X_xc2 := X_x_13.out.2 2 _ rfl
  have X_xc3 := X_x_13.out.2 3 _ rfl
  go_wp2_with fail
  refine (markGoodS_ok _ _ _ _ w8.heap.size _ _ _ O_x_xs_13.out OE_x_xs.out (by omega) (by omega) (by omega)).mono ?_
  rintro e w14 ⟨⟨k14, rfl, kp14, kq14⟩, hq⟩
  have S14 := hid (show w13.heap.size ≤ w14.heap.size from hq.size)
  have B_14 := hid (B_13.out.trans ((hq.below (by have := S1.out; have := S2.out; have := S3.out; have := S4.out; have := S5.out; have := S6.out; have := S7.out; have := S8.out; have := S9.out; have := S10.out; have := S11.out; have := S12.out; have := S13.out; have := S14.out; omega)).mono (by have := S1.out; have := S2.out; have := S3.out; have := S4.out; have := S5.out; have := S6.out; have := S7.out; have := S8.out; have := S9.out; have := S10.out; have := S11.out; have := S12.out; have := S13.out; have := S14.out; omega)))
  have X_x_14 := hid (X_x_13.out.chg hq (by have := S1.out; have := S2.out; have := S3.out; have := S4.out; have := S5.out; have := S6.out; have := S7.out; have := S8.out; have := S9.out; have := S10.out; have := S11.out; have := S12.out; have := S13.out; have := S14.out; omega))
  have R_spec_14 := hid (own_low R_spec_13.out RE_spec.out hq (by have := S1.out; have := S2.out; have := S3.out; have := S4.out; have := S5.out; have := S6.out; have := S7.out; have := S8.out; have := S9.out; have := S10.out; have := S11.out; have := S12.out; have := S13.out; have := S14.out; omega))
  have R_impl0_14 := hid (own_chg R_impl0_13.out hq (by have := S1.out; have := S2.out; have := S3.out; have := S4.out; have := S5.out; have := S6.out; have := S7.out; have := S8.out; have := S9.out; have := S10.out; have := S11.out; have := S12.out; have := S13.out; have := S14.out; omega))
  clear B_13 X_x_13 R_spec_13 R_impl0_13 hq X_xc0 X_xc1 X_xc2 X_xc3
  have X_xc0 := X_x_14.out.2 0 _ rfl
  have X_xc1 := X_x_14.out.2 1 _ rfl
  have X_xc2 := X_x_14.out.2 2 _ rfl
  have X_xc3 := X_x_14.out.2 3 _ rfl
  go_wp2_with fail
  refine (eqGoodS_same _ _ _ _ (fPutGood xs x).1 _ (rows_own R_impl0_14.out (by simp) (cellsGood_len _)) (rows_own R_spec_14.out (by simp) (cellsGood_len _)) hrl).mono ?_
  rintro e w15 ⟨rfl, hb⟩
  have S15 := hid (show w14.heap.size ≤ w15.heap.size from hb.size)
  have B_15 := hid (below_trans B_14.out hb)
  have X_x_15 := hid (X_x_14.out.below hb)
  have R_spec_15 := hid (own_below R_spec_14.out hb)
  have R_impl0_15 := hid (own_below R_impl0_14.out hb)
  clear B_14 X_x_14 R_spec_14 R_impl0_14 hb X_xc0 X_xc1 X_xc2 X_xc3
  have X_xc0 := X_x_15.out.2 0 _ rfl
  have X_xc1 := X_x_15.out.2 1 _ rfl
  have X_xc2 := X_x_15.out.2 2 _ rfl
  have X_xc3 := X_x_15.out.2 3 _ rfl
  go_wp2_with fail
  refine (markGoodX_ok _ _ _ w10.heap.size (fPutGood xs x).1 _ _ R_impl0_15.out RE_impl0.out (by omega) (by omega) (by omega)).mono ?_
  rintro e w16 ⟨rfl, ho, hq⟩
  have S16 := hid (show w15.heap.size ≤ w16.heap.size from hq.size)
  have B_16 := hid (B_15.out.trans ((hq.below (by have := S1.out; have := S2.out; have := S3.out; have := S4.out; have := S5.out; have := S6.out; have := S7.out; have := S8.out; have := S9.out; have := S10.out; have := S11.out; have := S12.out; have := S13.out; have := S14.out; have := S15.out; have := S16.out; omega)).mono (by have := S1.out; have := S2.out; have := S3.out; have := S4.out; have := S5.out; have := S6.out; have := S7.out; have := S8.out; have := S9.out; have := S10.out; have := S11.out; have := S12.out; have := S13.out; have := S14.out; have := S15.out; have := S16.out; omega)))
  have X_x_16 := hid (X_x_15.out.chg hq (by have := S1.out; have := S2.out; have := S3.out; have := S4.out; have := S5.out; have := S6.out; have := S7.out; have := S8.out; have := S9.out; have := S10.out; have := S11.out; have := S12.out; have := S13.out; have := S14.out; have := S15.out; have := S16.out; omega))
  have R_spec_16 := hid (own_low R_spec_15.out RE_spec.out hq (by have := S1.out; have := S2.out; have := S3.out; have := S4.out; have := S5.out; have := S6.out; have := S7.out; have := S8.out; have := S9.out; have := S10.out; have := S11.out; have := S12.out; have := S13.out; have := S14.out; have := S15.out; have := S16.out; omega))
  clear B_15 X_x_15 R_spec_15 hq X_xc0 X_xc1 X_xc2 X_xc3
  have M0 := hid ho
  clear ho
  have X_xc0 := X_x_16.out.2 0 _ rfl
  have X_xc1 := X_x_16.out.2 1 _ rfl
  have X_xc2 := X_x_16.out.2 2 _ rfl
  have X_xc3 := X_x_16.out.2 3 _ rfl
  go_wp2_with fail
  refine (heldGoodS_ok _ _ (fPutGood xs x).1.length _ _ (rows_own M0.out (by simp [mksGood_length]) (cellsGood_len _)) (by omega) (by omega) (by omega)).mono ?_
  rintro e w17 ⟨rfl, hb⟩
  have S17 := hid (show w16.heap.size ≤ w17.heap.size from hb.size)
  have B_17 := hid (below_trans B_16.out hb)
  have X_x_17 := hid (X_x_16.out.below hb)
  have R_spec_17 := hid (own_below R_spec_16.out hb)
  have M_17 := hid (own_below M0.out hb)
  clear B_16 X_x_16 R_spec_16 M0 hb X_xc0 X_xc1 X_xc2 X_xc3
  have X_xc0 := X_x_17.out.2 0 _ rfl
  have X_xc1 := X_x_17.out.2 1 _ rfl
  have X_xc2 := X_x_17.out.2 2 _ rfl
  have X_xc3 := X_x_17.out.2 3 _ rfl
  go_wp2_with fail
  have hl17 : w.heap.size < w17.heap.size := X_x_17.out.1
  have hbd : Below w17.heap.size w17 w17.drew := (Below.refl _ _).drew
  have S18 := hid (show w17.heap.size ≤ w17.drew.heap.size from hbd.size)
  have B_18 := hid (below_trans B_17.out hbd)
  have X_x_18 := hid (X_x_17.out.below hbd)
  have R_spec_18 := hid (own_below R_spec_17.out hbd)
  have M_18 := hid (own_below M_17.out hbd)
  clear B_17 X_x_17 R_spec_17 M_17 hbd
  refine wp_region_held_drew (S := (fun w' => (True ∧ Below w17.heap.size w17 w') ∧ w'.cell? ⟨w.heap.size, 0, none⟩ = some (.string x.fId) ∧ w'.cell? ⟨w.heap.size, 1, none⟩ = some (.int .i64 x.fCount) ∧ w'.cell? ⟨w.heap.size, 2, none⟩ = some (.int .i64 x.fLeast) ∧ w'.cell? ⟨w.heap.size, 3, none⟩ = some (.int .i64 x.fPrice))) (by kernel_rfl) ⟨⟨trivial, (Below.refl _ _).drew⟩, X_xc0, X_xc1, X_xc2, X_xc3⟩ (fun hHeld => ?_)
  refine wpAnyH_take (i := 0) (oi := ⟨some 85, _, _, _, _, _⟩) (v := ?_) rfl (by kernel_rfl) (by kernel_rfl) (by kernel_rfl) (fun _ _ _ h => h) (Or.inl ⟨by rfl, ?_⟩) (by assumption) ?_
  rotate_left
  · (intro w hSw; (try dsimp only at hSw); go_simp; try with_reducible rfl)
  try simp only [Act.put, List.setIfInBounds_toArray, List.set_cons_zero, List.set_cons_succ]
  refine wpAnyH_take (i := 2) (oi := ⟨some 87, _, _, _, _, _⟩) (v := ?_) rfl (by kernel_rfl) (by kernel_rfl) (by kernel_rfl) (fun _ _ _ h => h) (Or.inl ⟨by rfl, ?_⟩) (by assumption) ?_
  rotate_left
  · (intro w hSw; (try dsimp only at hSw); go_simp; try with_reducible rfl)
  try simp only [Act.put, List.setIfInBounds_toArray, List.set_cons_zero, List.set_cons_succ]
  refine wpAnyH_ready (rs := [1]) (by kernel_rfl) (by simp) ?_
  refine AllReadyH.cons (o := ⟨some 86, _, _, _, _, _⟩) rfl (fun K hK => ?_) AllReadyH.nil
  go_simp
  refine (toGoodS_ok A_xs c_xs xs _ (H_xs.out.up B_18.out (Nat.le_refl _)) hn2_xs).mono ?_; rintro e w19 ⟨g19, rfl, ho, hb⟩
  (try go_wp2_with fail)
  refine hK.out _ _ (keepM4 hl17 hl17 hl17 hl17 ‹_ ∧ _› hb) (fun hHeld => ?_)
  clear hK K
  have S19 := hid (show w17.drew.heap.size ≤ w19.heap.size from hb.size)
  have B_19 := hid (below_trans B_18.out hb)
  have X_x_19 := hid (X_x_18.out.below hb)
  have R_spec_19 := hid (own_below R_spec_18.out hb)
  have M_19 := hid (own_below M_18.out hb)
  clear B_18 X_x_18 R_spec_18 M_18 hb
  have O_z_xs := hid ho
  have OE_z_xs := hid (own_lt ho)
  clear ho
  try simp only [Act.put, List.setIfInBounds_toArray, List.set_cons_zero, List.set_cons_succ]
  refine wpAnyH_ready (rs := [3]) (by kernel_rfl) (by simp) ?_
  refine AllReadyH.cons (o := ⟨some 88, _, _, _, _, _⟩) rfl (fun K hK => ?_) AllReadyH.nil
  go_simp
  refine (toGood_ok x _).mono ?_; rintro e w20 ⟨rfl, hb⟩
  (try go_wp2_with fail)
  refine hK.out _ _ (keepM4 hl17 hl17 hl17 hl17 ‹_ ∧ _› hb) (fun hHeld => ?_)
  clear hK K
  have S20 := hid (show w19.heap.size ≤ w20.heap.size from hb.size)
  have B_20 := hid (below_trans B_19.out hb)
  have X_x_20 := hid (X_x_19.out.below hb)
  have R_spec_20 := hid (own_below R_spec_19.out hb)
  have M_20 := hid (own_below M_19.out hb)
  have O_z_xs_20 := hid (own_below O_z_xs.out hb)
  clear B_19 X_x_19 R_spec_19 M_19 O_z_xs hb
  try simp only [Act.put, List.setIfInBounds_toArray, List.set_cons_zero, List.set_cons_succ]
  refine wpAnyH_ready (rs := [4]) (by kernel_rfl) (by simp) ?_
  refine AllReadyH.cons (o := ⟨some 89, _, _, _, _, _⟩) rfl (fun K hK => ?_) AllReadyH.nil
  go_simp
  refine (implPutGood_ok _ xs x _ (rows_own O_z_xs_20.out (by simp) (cellsGood_len _)) HK_xs.out hn2_xs HK_x.out ).mono ?_; rintro e w21 ⟨A21, c21, rfl, ho, hno21, hb⟩
  (try go_wp2_with fail)
  refine hK.out _ _ (keepM4 hl17 hl17 hl17 hl17 ‹_ ∧ _› hb) (fun hHeld => ?_)
  clear hK K
  have S21 := hid (show w20.heap.size ≤ w21.heap.size from hb.size)
  have B_21 := hid (below_trans B_20.out hb)
  have X_x_21 := hid (X_x_20.out.below hb)
  have R_spec_21 := hid (own_below R_spec_20.out hb)
  have M_21 := hid (own_below M_20.out hb)
  clear B_20 X_x_20 R_spec_20 M_20 hb
  have R_impl1 := hid ho
  have RE_impl1 := hid (own_lt ho)
  clear ho
  try simp only [Act.put, List.setIfInBounds_toArray, List.set_cons_zero, List.set_cons_succ]
  refine wpAnyH_take (i := 5) (oi := ⟨some 84, _, _, _, _, _⟩) (v := ?_) rfl (by kernel_rfl) (by kernel_rfl) (by kernel_rfl) (fun _ _ _ h => h) (Or.inl ⟨by rfl, ?_⟩) (by assumption) ?_
  rotate_left
  · (intro w hSw; (try dsimp only at hSw); go_simp; try with_reducible rfl)
  try simp only [Act.put, List.setIfInBounds_toArray, List.set_cons_zero, List.set_cons_succ]
  refine wpAnyH_take (i := 6) (oi := ⟨some 90, _, _, _, _, _⟩) (v := ?_) rfl (by kernel_rfl) (by kernel_rfl) (by kernel_rfl) (fun _ _ _ h => h) (Or.inl ⟨by rfl, ?_⟩) (by assumption) ?_
  rotate_left
  · (intro w hSw; (try dsimp only at hSw); go_simp; try with_reducible rfl)
  try simp only [Act.put, List.setIfInBounds_toArray, List.set_cons_zero, List.set_cons_succ]
  refine wpAnyH_take (i := 7) (oi := ⟨some 91, _, _, _, _, _⟩) (v := ?_) rfl (by kernel_rfl) (by kernel_rfl) (by kernel_rfl) (fun _ _ _ h => h) (Or.inl ⟨by rfl, ?_⟩) (by assumption) ?_
  rotate_left
  · (intro w hSw; (try dsimp only at hSw); go_simp; try with_reducible rfl)
  try simp only [Act.put, List.setIfInBounds_toArray, List.set_cons_zero, List.set_cons_succ]
  refine wpAnyH_take (i := 8) (oi := ⟨some 14, _, _, _, _, _⟩) (v := ?_) rfl (by kernel_rfl) (by kernel_rfl) (by kernel_rfl) (fun _ _ _ h => h) (Or.inl ⟨by rfl, ?_⟩) (by assumption) ?_
  rotate_left
  · (intro w hSw; (try dsimp only at hSw); go_simp; try with_reducible rfl)
  try simp only [Act.put, List.setIfInBounds_toArray, List.set_cons_zero, List.set_cons_succ]
  refine wpAnyH_take (i := 9) (oi := ⟨some 15, _, _, _, _, _⟩) (v := ?_) rfl (by kernel_rfl) (by kernel_rfl) (by kernel_rfl) (fun _ _ _ h => h) (Or.inl ⟨by rfl, ?_⟩) (by assumption) ?_
  rotate_left
  · (intro w hSw; (try dsimp only at hSw); go_simp; try with_reducible rfl)
  try simp only [Act.put, List.setIfInBounds_toArray, List.set_cons_zero, List.set_cons_succ]
  refine wpAnyH_done (by kernel_rfl) ?_ _
  clear X_xc0 X_xc1 X_xc2 X_xc3
  have X_xc0 := X_x_21.out.2 0 _ rfl
  have X_xc1 := X_x_21.out.2 1 _ rfl
  have X_xc2 := X_x_21.out.2 2 _ rfl
  have X_xc3 := X_x_21.out.2 3 _ rfl
  go_wp2_with fail
  refine (eqGoodS_same _ _ _ _ (fPutGood xs x).1 _ (rows_own R_impl1.out (by simp) (cellsGood_len _)) (rows_own R_spec_21.out (by simp) (cellsGood_len _)) hrl).mono ?_
  rintro e w22 ⟨rfl, hb⟩
  have S22 := hid (show w21.heap.size ≤ w22.heap.size from hb.size)
  have B_22 := hid (below_trans B_21.out hb)
  have X_x_22 := hid (X_x_21.out.below hb)
  have R_spec_22 := hid (own_below R_spec_21.out hb)
  have M_22 := hid (own_below M_21.out hb)
  have R_impl1_22 := hid (own_below R_impl1.out hb)
  clear B_21 X_x_21 R_spec_21 M_21 R_impl1 hb X_xc0 X_xc1 X_xc2 X_xc3
  have X_xc0 := X_x_22.out.2 0 _ rfl
  have X_xc1 := X_x_22.out.2 1 _ rfl
  have X_xc2 := X_x_22.out.2 2 _ rfl
  have X_xc3 := X_x_22.out.2 3 _ rfl
  go_wp2_with fail
  refine (heldGoodS_ok _ _ (fPutGood xs x).1.length _ _ (rows_own M_22.out (by simp [mksGood_length]) (cellsGood_len _)) (by omega) (by omega) (by omega)).mono ?_
  rintro e w23 ⟨rfl, hb⟩
  have S23 := hid (show w22.heap.size ≤ w23.heap.size from hb.size)
  have B_23 := hid (below_trans B_22.out hb)
  have X_x_23 := hid (X_x_22.out.below hb)
  have R_spec_23 := hid (own_below R_spec_22.out hb)
  have M_23 := hid (own_below M_22.out hb)
  have R_impl1_23 := hid (own_below R_impl1_22.out hb)
  clear B_22 X_x_22 R_spec_22 M_22 R_impl1_22 hb X_xc0 X_xc1 X_xc2 X_xc3
  have X_xc0 := X_x_23.out.2 0 _ rfl
  have X_xc1 := X_x_23.out.2 1 _ rfl
  have X_xc2 := X_x_23.out.2 2 _ rfl
  have X_xc3 := X_x_23.out.2 3 _ rfl
  go_wp2_with fail
  go_ret
  exact ⟨rfl, B_23.out⟩

end Go.Proofs.Ytjeklbhdngkngaa
