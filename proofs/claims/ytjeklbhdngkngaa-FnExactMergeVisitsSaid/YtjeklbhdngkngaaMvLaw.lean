/- The law FnExactMergeVisits. -/
import Derived.Test.YtjeklbhdngkngaaMvS
import Derived.Test.YtjeklbhdngkngaaMVisit
import Derived.Test.YtjeklbhdngkngaaHVisit
namespace Go.Proofs.Ytjeklbhdngkngaa
open Go.RowKit
set_option linter.unusedVariables false

set_option maxHeartbeats 3200000 in
set_option maxRecDepth 100000 in
theorem lawMergeVisits_ok (A_xs : Option Addr) (c_xs : Nat) (xs : List DVisit) (A_ys : Option Addr) (c_ys : Nat) (ys : List DVisit) (w : World) (h_xs : RowsAt w 4 A_xs (xs.map DVisit.cells)) (hk_xs : ∀ x ∈ xs, x.ok) (hn_xs : xs.length ≤ maxLen) (h_ys : RowsAt w 4 A_ys (ys.map DVisit.cells)) (hk_ys : ∀ x ∈ ys, x.ok) (hn_ys : ys.length ≤ maxLen)  :
    Calls Try.prog 6 #[.slice A_xs xs.length c_xs, .slice A_ys ys.length c_ys] w fun e w' => e = .returned (.bool true) ∧ Below w.heap.size w w' := by
  have H_xs := hid h_xs
  have HK_xs := hid hk_xs
  clear h_xs hk_xs
  have H_ys := hid h_ys
  have HK_ys := hid hk_ys
  clear h_ys hk_ys
  go_enter Try.func6, Try.ntmps6
  go_wp2_with fail
  have B_0 := hid (Below.refl w.heap.size w)
  refine (szVisitS_ok A_xs c_xs xs _ _ H_xs.out HK_xs.out hn_xs (by omega) (by omega)).mono ?_
  rintro e w1 ⟨⟨z_xs, rfl, z1_xs, z2_xs, z3_xs⟩, hb⟩
  have Z_xs := hid z3_xs
  clear z3_xs
  have S1 := hid (show w.heap.size ≤ w1.heap.size from hb.size)
  have B_1 := hid (below_trans B_0.out hb)
  clear B_0 hb
  go_wp2_with fail
  · go_ret
    exact ⟨rfl, B_1.out⟩
  have hn2_xs : xs.length ≤ 1048576 := by have := Z_xs.out ‹_›; omega
  clear Z_xs
  refine (szVisitS_ok A_ys c_ys ys _ _ (H_ys.out.up B_1.out (Nat.le_refl _)) HK_ys.out hn_ys (by omega) (by omega)).mono ?_
  rintro e w2 ⟨⟨z_ys, rfl, z1_ys, z2_ys, z3_ys⟩, hb⟩
  have Z_ys := hid z3_ys
  clear z3_ys
  have S2 := hid (show w1.heap.size ≤ w2.heap.size from hb.size)
  have B_2 := hid (below_trans B_1.out hb)
  clear B_1 hb
  go_wp2_with fail
  · go_ret
    exact ⟨rfl, B_2.out⟩
  have hn2_ys : ys.length ≤ 1048576 := by have := Z_ys.out ‹_›; omega
  clear Z_ys
  refine (toVisitS_ok A_xs c_xs xs _ (H_xs.out.up B_2.out (Nat.le_refl _)) hn2_xs).mono ?_
  rintro e w3 ⟨g3, rfl, ho, hb⟩
  have S3 := hid (show w2.heap.size ≤ w3.heap.size from hb.size)
  have B_3 := hid (below_trans B_2.out hb)
  clear B_2 hb
  have O_s_xs := hid ho
  have OE_s_xs := hid (own_lt ho)
  clear ho
  go_wp2_with fail
  refine (toVisitS_ok A_ys c_ys ys _ (H_ys.out.up B_3.out (Nat.le_refl _)) hn2_ys).mono ?_
  rintro e w4 ⟨g4, rfl, ho, hb⟩
  have S4 := hid (show w3.heap.size ≤ w4.heap.size from hb.size)
  have B_4 := hid (below_trans B_3.out hb)
  have O_s_xs_4 := hid (own_below O_s_xs.out hb)
  clear B_3 O_s_xs hb
  have O_s_ys := hid ho
  have OE_s_ys := hid (own_lt ho)
  clear ho
  go_wp2_with fail
  refine (specMv_ok _ xs _ ys _ (rows_own O_s_xs_4.out (by simp) (cellsVisit_len _)) HK_xs.out hn2_xs (rows_own O_s_ys.out (by simp) (cellsVisit_len _)) HK_ys.out hn2_ys ).mono ?_
  rintro e w5 ⟨A5, c5, rfl, ho, hno5, hb⟩
  have S5 := hid (show w4.heap.size ≤ w5.heap.size from hb.size)
  have B_5 := hid (below_trans B_4.out hb)
  clear B_4 hb
  have R_spec := hid ho
  have RE_spec := hid (own_lt ho)
  clear ho
  go_wp2_with fail
  refine (toVisitS_ok A_xs c_xs xs _ (H_xs.out.up B_5.out (Nat.le_refl _)) hn2_xs).mono ?_
  rintro e w6 ⟨g6, rfl, ho, hb⟩
  have S6 := hid (show w5.heap.size ≤ w6.heap.size from hb.size)
  have B_6 := hid (below_trans B_5.out hb)
  have R_spec_6 := hid (own_below R_spec.out hb)
  clear B_5 R_spec hb
  have O_x_xs := hid ho
  have OE_x_xs := hid (own_lt ho)
  clear ho
  go_wp2_with fail
  refine (toVisitS_ok A_ys c_ys ys _ (H_ys.out.up B_6.out (Nat.le_refl _)) hn2_ys).mono ?_
  rintro e w7 ⟨g7, rfl, ho, hb⟩
  have S7 := hid (show w6.heap.size ≤ w7.heap.size from hb.size)
  have B_7 := hid (below_trans B_6.out hb)
  have R_spec_7 := hid (own_below R_spec_6.out hb)
  have O_x_xs_7 := hid (own_below O_x_xs.out hb)
  clear B_6 R_spec_6 O_x_xs hb
  have O_x_ys := hid ho
  have OE_x_ys := hid (own_lt ho)
  clear ho
  go_wp2_with fail
  refine (implMv_ok _ xs _ ys _ (rows_own O_x_xs_7.out (by simp) (cellsVisit_len _)) HK_xs.out hn2_xs (rows_own O_x_ys.out (by simp) (cellsVisit_len _)) HK_ys.out hn2_ys ).mono ?_
  rintro e w8 ⟨A8, c8, rfl, ho, hno8, hb⟩
  have S8 := hid (show w7.heap.size ≤ w8.heap.size from hb.size)
  have B_8 := hid (below_trans B_7.out hb)
  have R_spec_8 := hid (own_below R_spec_7.out hb)
  have O_x_xs_8 := hid (own_below O_x_xs_7.out hb)
  have O_x_ys_8 := hid (own_below O_x_ys.out hb)
  clear B_7 R_spec_7 O_x_xs_7 O_x_ys hb
  have R_impl0 := hid ho
  have RE_impl0 := hid (own_lt ho)
  clear ho
  go_wp2_with fail
  have hrl : (fMv xs ys).1.length ≤ 1048576 := by have := fMv_small xs ys; omega
  refine (eqVisitS_same _ _ _ _ (fMv xs ys).1 _ (rows_own R_impl0.out (by simp) (cellsVisit_len _)) (rows_own R_spec_8.out (by simp) (cellsVisit_len _)) hrl).mono ?_
  rintro e w9 ⟨rfl, hb⟩
  have S9 := hid (show w8.heap.size ≤ w9.heap.size from hb.size)
  have B_9 := hid (below_trans B_8.out hb)
  have R_spec_9 := hid (own_below R_spec_8.out hb)
  have O_x_xs_9 := hid (own_below O_x_xs_8.out hb)
  have O_x_ys_9 := hid (own_below O_x_ys_8.out hb)
  have R_impl0_9 := hid (own_below R_impl0.out hb)
  clear B_8 R_spec_8 O_x_xs_8 O_x_ys_8 R_impl0 hb
  go_wp2_with fail
  refine (toVisitS_ok A_xs c_xs xs _ (H_xs.out.up B_9.out (Nat.le_refl _)) hn2_xs).mono ?_
  rintro e w10 ⟨g10, rfl, ho, hb⟩
  have S10 := hid (show w9.heap.size ≤ w10.heap.size from hb.size)
  have B_10 := hid (below_trans B_9.out hb)
  have R_spec_10 := hid (own_below R_spec_9.out hb)
  have O_x_xs_10 := hid (own_below O_x_xs_9.out hb)
  have O_x_ys_10 := hid (own_below O_x_ys_9.out hb)
  have R_impl0_10 := hid (own_below R_impl0_9.out hb)
  clear B_9 R_spec_9 O_x_xs_9 O_x_ys_9 R_impl0_9 hb
  have O_y_xs := hid ho
  have OE_y_xs := hid (own_lt ho)
  clear ho
  go_wp2_with fail
  refine (eqVisitS_same _ _ _ _ xs _ (rows_own O_x_xs_10.out (by simp) (cellsVisit_len _)) (rows_own O_y_xs.out (by simp) (cellsVisit_len _)) hn2_xs).mono ?_
  rintro e w11 ⟨rfl, hb⟩
  have S11 := hid (show w10.heap.size ≤ w11.heap.size from hb.size)
  have B_11 := hid (below_trans B_10.out hb)
  have R_spec_11 := hid (own_below R_spec_10.out hb)
  have O_x_xs_11 := hid (own_below O_x_xs_10.out hb)
  have O_x_ys_11 := hid (own_below O_x_ys_10.out hb)
  have R_impl0_11 := hid (own_below R_impl0_10.out hb)
  clear B_10 R_spec_10 O_x_xs_10 O_x_ys_10 R_impl0_10 hb
  go_wp2_with fail
  refine (toVisitS_ok A_ys c_ys ys _ (H_ys.out.up B_11.out (Nat.le_refl _)) hn2_ys).mono ?_
  rintro e w12 ⟨g12, rfl, ho, hb⟩
  have S12 := hid (show w11.heap.size ≤ w12.heap.size from hb.size)
  have B_12 := hid (below_trans B_11.out hb)
  have R_spec_12 := hid (own_below R_spec_11.out hb)
  have O_x_xs_12 := hid (own_below O_x_xs_11.out hb)
  have O_x_ys_12 := hid (own_below O_x_ys_11.out hb)
  have R_impl0_12 := hid (own_below R_impl0_11.out hb)
  clear B_11 R_spec_11 O_x_xs_11 O_x_ys_11 R_impl0_11 hb
  have O_y_ys := hid ho
  have OE_y_ys := hid (own_lt ho)
  clear ho
  go_wp2_with fail
  refine (eqVisitS_same _ _ _ _ ys _ (rows_own O_x_ys_12.out (by simp) (cellsVisit_len _)) (rows_own O_y_ys.out (by simp) (cellsVisit_len _)) hn2_ys).mono ?_
  rintro e w13 ⟨rfl, hb⟩
  have S13 := hid (show w12.heap.size ≤ w13.heap.size from hb.size)
  have B_13 := hid (below_trans B_12.out hb)
  have R_spec_13 := hid (own_below R_spec_12.out hb)
  have O_x_xs_13 := hid (own_below O_x_xs_12.out hb)
  have O_x_ys_13 := hid (own_below O_x_ys_12.out hb)
  have R_impl0_13 := hid (own_below R_impl0_12.out hb)
  clear B_12 R_spec_12 O_x_xs_12 O_x_ys_12 R_impl0_12 hb
  go_wp2_with fail
  refine (markVisitS_ok _ _ _ _ w6.heap.size _ _ _ O_x_xs_13.out OE_x_xs.out (by omega) (by omega) (by omega)).mono ?_
  rintro e w14 ⟨⟨k14, rfl, kp14, kq14⟩, hq⟩
  have S14 := hid (show w13.heap.size ≤ w14.heap.size from hq.size)
  have B_14 := hid (B_13.out.trans ((hq.below (by have := S1.out; have := S2.out; have := S3.out; have := S4.out; have := S5.out; have := S6.out; have := S7.out; have := S8.out; have := S9.out; have := S10.out; have := S11.out; have := S12.out; have := S13.out; have := S14.out; omega)).mono (by have := S1.out; have := S2.out; have := S3.out; have := S4.out; have := S5.out; have := S6.out; have := S7.out; have := S8.out; have := S9.out; have := S10.out; have := S11.out; have := S12.out; have := S13.out; have := S14.out; omega)))
  have R_spec_14 := hid (own_low R_spec_13.out RE_spec.out hq (by have := S1.out; have := S2.out; have := S3.out; have := S4.out; have := S5.out; have := S6.out; have := S7.out; have := S8.out; have := S9.out; have := S10.out; have := S11.out; have := S12.out; have := S13.out; have := S14.out; omega))
  have O_x_ys_14 := hid (own_chg O_x_ys_13.out hq (by have := S1.out; have := S2.out; have := S3.out; have := S4.out; have := S5.out; have := S6.out; have := S7.out; have := S8.out; have := S9.out; have := S10.out; have := S11.out; have := S12.out; have := S13.out; have := S14.out; omega))
  have R_impl0_14 := hid (own_chg R_impl0_13.out hq (by have := S1.out; have := S2.out; have := S3.out; have := S4.out; have := S5.out; have := S6.out; have := S7.out; have := S8.out; have := S9.out; have := S10.out; have := S11.out; have := S12.out; have := S13.out; have := S14.out; omega))
  clear B_13 R_spec_13 O_x_ys_13 R_impl0_13 hq
  go_wp2_with fail
  refine (markVisitS_ok _ _ _ _ w7.heap.size _ _ _ O_x_ys_14.out OE_x_ys.out (by omega) (by omega) (by omega)).mono ?_
  rintro e w15 ⟨⟨k15, rfl, kp15, kq15⟩, hq⟩
  have S15 := hid (show w14.heap.size ≤ w15.heap.size from hq.size)
  have B_15 := hid (B_14.out.trans ((hq.below (by have := S1.out; have := S2.out; have := S3.out; have := S4.out; have := S5.out; have := S6.out; have := S7.out; have := S8.out; have := S9.out; have := S10.out; have := S11.out; have := S12.out; have := S13.out; have := S14.out; have := S15.out; omega)).mono (by have := S1.out; have := S2.out; have := S3.out; have := S4.out; have := S5.out; have := S6.out; have := S7.out; have := S8.out; have := S9.out; have := S10.out; have := S11.out; have := S12.out; have := S13.out; have := S14.out; have := S15.out; omega)))
  have R_spec_15 := hid (own_low R_spec_14.out RE_spec.out hq (by have := S1.out; have := S2.out; have := S3.out; have := S4.out; have := S5.out; have := S6.out; have := S7.out; have := S8.out; have := S9.out; have := S10.out; have := S11.out; have := S12.out; have := S13.out; have := S14.out; have := S15.out; omega))
  have R_impl0_15 := hid (own_chg R_impl0_14.out hq (by have := S1.out; have := S2.out; have := S3.out; have := S4.out; have := S5.out; have := S6.out; have := S7.out; have := S8.out; have := S9.out; have := S10.out; have := S11.out; have := S12.out; have := S13.out; have := S14.out; have := S15.out; omega))
  clear B_14 R_spec_14 R_impl0_14 hq
  go_wp2_with fail
  refine (eqVisitS_same _ _ _ _ (fMv xs ys).1 _ (rows_own R_impl0_15.out (by simp) (cellsVisit_len _)) (rows_own R_spec_15.out (by simp) (cellsVisit_len _)) hrl).mono ?_
  rintro e w16 ⟨rfl, hb⟩
  have S16 := hid (show w15.heap.size ≤ w16.heap.size from hb.size)
  have B_16 := hid (below_trans B_15.out hb)
  have R_spec_16 := hid (own_below R_spec_15.out hb)
  have R_impl0_16 := hid (own_below R_impl0_15.out hb)
  clear B_15 R_spec_15 R_impl0_15 hb
  go_wp2_with fail
  refine (markVisitX_ok _ _ _ w8.heap.size (fMv xs ys).1 _ _ R_impl0_16.out RE_impl0.out (by omega) (by omega) (by omega)).mono ?_
  rintro e w17 ⟨rfl, ho, hq⟩
  have S17 := hid (show w16.heap.size ≤ w17.heap.size from hq.size)
  have B_17 := hid (B_16.out.trans ((hq.below (by have := S1.out; have := S2.out; have := S3.out; have := S4.out; have := S5.out; have := S6.out; have := S7.out; have := S8.out; have := S9.out; have := S10.out; have := S11.out; have := S12.out; have := S13.out; have := S14.out; have := S15.out; have := S16.out; have := S17.out; omega)).mono (by have := S1.out; have := S2.out; have := S3.out; have := S4.out; have := S5.out; have := S6.out; have := S7.out; have := S8.out; have := S9.out; have := S10.out; have := S11.out; have := S12.out; have := S13.out; have := S14.out; have := S15.out; have := S16.out; have := S17.out; omega)))
  have R_spec_17 := hid (own_low R_spec_16.out RE_spec.out hq (by have := S1.out; have := S2.out; have := S3.out; have := S4.out; have := S5.out; have := S6.out; have := S7.out; have := S8.out; have := S9.out; have := S10.out; have := S11.out; have := S12.out; have := S13.out; have := S14.out; have := S15.out; have := S16.out; have := S17.out; omega))
  clear B_16 R_spec_16 hq
  have M0 := hid ho
  clear ho
  go_wp2_with fail
  refine (heldVisitS_ok _ _ (fMv xs ys).1.length _ _ (rows_own M0.out (by simp [mksVisit_length]) (cellsVisit_len _)) (by omega) (by omega) (by omega)).mono ?_
  rintro e w18 ⟨rfl, hb⟩
  have S18 := hid (show w17.heap.size ≤ w18.heap.size from hb.size)
  have B_18 := hid (below_trans B_17.out hb)
  have R_spec_18 := hid (own_below R_spec_17.out hb)
  have M_18 := hid (own_below M0.out hb)
  clear B_17 R_spec_17 M0 hb
  go_wp2_with fail
  refine (toVisitS_ok A_xs c_xs xs _ (H_xs.out.up B_18.out (Nat.le_refl _)) hn2_xs).mono ?_
  rintro e w19 ⟨g19, rfl, ho, hb⟩
  have S19 := hid (show w18.heap.size ≤ w19.heap.size from hb.size)
  have B_19 := hid (below_trans B_18.out hb)
  have R_spec_19 := hid (own_below R_spec_18.out hb)
  have M_19 := hid (own_below M_18.out hb)
  clear B_18 R_spec_18 M_18 hb
  have O_z_xs := hid ho
  have OE_z_xs := hid (own_lt ho)
  clear ho
  go_wp2_with fail
  refine (toVisitS_ok A_ys c_ys ys _ (H_ys.out.up B_19.out (Nat.le_refl _)) hn2_ys).mono ?_
  rintro e w20 ⟨g20, rfl, ho, hb⟩
  have S20 := hid (show w19.heap.size ≤ w20.heap.size from hb.size)
  have B_20 := hid (below_trans B_19.out hb)
  have R_spec_20 := hid (own_below R_spec_19.out hb)
  have M_20 := hid (own_below M_19.out hb)
  have O_z_xs_20 := hid (own_below O_z_xs.out hb)
  clear B_19 R_spec_19 M_19 O_z_xs hb
  have O_z_ys := hid ho
  have OE_z_ys := hid (own_lt ho)
  clear ho
  go_wp2_with fail
  refine (implMv_ok _ xs _ ys _ (rows_own O_z_xs_20.out (by simp) (cellsVisit_len _)) HK_xs.out hn2_xs (rows_own O_z_ys.out (by simp) (cellsVisit_len _)) HK_ys.out hn2_ys ).mono ?_
  rintro e w21 ⟨A21, c21, rfl, ho, hno21, hb⟩
  have S21 := hid (show w20.heap.size ≤ w21.heap.size from hb.size)
  have B_21 := hid (below_trans B_20.out hb)
  have R_spec_21 := hid (own_below R_spec_20.out hb)
  have M_21 := hid (own_below M_20.out hb)
  clear B_20 R_spec_20 M_20 hb
  have R_impl1 := hid ho
  have RE_impl1 := hid (own_lt ho)
  clear ho
  go_wp2_with fail
  refine (eqVisitS_same _ _ _ _ (fMv xs ys).1 _ (rows_own R_impl1.out (by simp) (cellsVisit_len _)) (rows_own R_spec_21.out (by simp) (cellsVisit_len _)) hrl).mono ?_
  rintro e w22 ⟨rfl, hb⟩
  have S22 := hid (show w21.heap.size ≤ w22.heap.size from hb.size)
  have B_22 := hid (below_trans B_21.out hb)
  have R_spec_22 := hid (own_below R_spec_21.out hb)
  have M_22 := hid (own_below M_21.out hb)
  have R_impl1_22 := hid (own_below R_impl1.out hb)
  clear B_21 R_spec_21 M_21 R_impl1 hb
  go_wp2_with fail
  refine (heldVisitS_ok _ _ (fMv xs ys).1.length _ _ (rows_own M_22.out (by simp [mksVisit_length]) (cellsVisit_len _)) (by omega) (by omega) (by omega)).mono ?_
  rintro e w23 ⟨rfl, hb⟩
  have S23 := hid (show w22.heap.size ≤ w23.heap.size from hb.size)
  have B_23 := hid (below_trans B_22.out hb)
  have R_spec_23 := hid (own_below R_spec_22.out hb)
  have M_23 := hid (own_below M_22.out hb)
  have R_impl1_23 := hid (own_below R_impl1_22.out hb)
  clear B_22 R_spec_22 M_22 R_impl1_22 hb
  go_wp2_with fail
  go_ret
  exact ⟨rfl, B_23.out⟩

end Go.Proofs.Ytjeklbhdngkngaa
