/- The law FnExactCommitState. -/
import Derived.Test.YtjeklbhdngkngaaCommitS
import Derived.Test.YtjeklbhdngkngaaMSetting
namespace Go.Proofs.Ytjeklbhdngkngaa
open Go.RowKit
set_option linter.unusedVariables false

set_option maxHeartbeats 3200000 in
set_option maxRecDepth 100000 in
theorem lawCommitState_ok (A_xs : Option Addr) (c_xs : Nat) (xs : List DVersion) (m : Int) (memo : ByteArray) (A_st : Option Addr) (c_st : Nat) (st : List DSetting) (w : World) (h_xs : NestAt 2 hdVersion inVersion w A_xs xs) (hk_xs : ∀ x ∈ xs, x.ok) (hn_xs : xs.length ≤ maxLen) (hn_memo : memo.size ≤ maxLen) (h_st : RowsAt w 2 A_st (st.map DSetting.cells)) (hk_st : ∀ x ∈ st, x.ok) (hn_st : st.length ≤ maxLen) (hr : -9223372036854775808 ≤ m ∧ m ≤ 9223372036854775807) :
    Calls Try.prog 5 #[.slice A_xs xs.length c_xs, .int .i64 m, .string memo, .slice A_st st.length c_st] w fun e w' => e = .returned (.bool true) ∧ Below w.heap.size w w' := by
  by_cases b_memo : (1048576 : Int) < memo.size
  · unfold maxLen at *
    go_enter Try.func5, Try.ntmps5
    go_wp2_with fail
    go_ret
    exact ⟨rfl, Below.refl _ _⟩
  have H_xs := hid h_xs
  have HK_xs := hid hk_xs
  clear h_xs hk_xs
  have H_st := hid h_st
  have HK_st := hid hk_st
  clear h_st hk_st
  go_enter Try.func5, Try.ntmps5
  go_wp2_with fail
  have B_0 := hid (Below.refl w.heap.size w)
  refine (szVersionS_ok A_xs c_xs xs _ _ H_xs.out HK_xs.out hn_xs (by omega) (by omega)).mono ?_
  rintro e w1 ⟨⟨z_xs, rfl, z1_xs, z2_xs, z3_xs⟩, hb⟩
  have Z_xs := hid z3_xs
  clear z3_xs
  have S1 := hid (show w.heap.size ≤ w1.heap.size from hb.size)
  have B_1 := hid (below_trans B_0.out hb)
  clear B_0 hb
  go_wp2_with fail
  · go_ret
    exact ⟨rfl, B_1.out⟩
  obtain ⟨hz_xs, hi_xs⟩ := Z_xs.out ‹_›
  have hn2_xs : xs.length ≤ 1048576 := by omega
  have HI_xs := hid hi_xs
  clear Z_xs hi_xs
  refine (szSettingS_ok A_st c_st st _ _ (H_st.out.up B_1.out (Nat.le_refl _)) HK_st.out hn_st (by omega) (by omega)).mono ?_
  rintro e w2 ⟨⟨z_st, rfl, z1_st, z2_st, z3_st⟩, hb⟩
  have Z_st := hid z3_st
  clear z3_st
  have S2 := hid (show w1.heap.size ≤ w2.heap.size from hb.size)
  have B_2 := hid (below_trans B_1.out hb)
  clear B_1 hb
  go_wp2_with fail
  · go_ret
    exact ⟨rfl, B_2.out⟩
  have hn2_st : st.length ≤ 1048576 := by have := Z_st.out ‹_›; omega
  clear Z_st
  refine (toVersionS_ok A_xs c_xs xs _ (H_xs.out.up B_2.out (Nat.le_refl _)) hn2_xs HI_xs.out).mono ?_
  rintro e w3 ⟨g3, rfl, ho, hb⟩
  have S3 := hid (show w2.heap.size ≤ w3.heap.size from hb.size)
  have B_3 := hid (below_trans B_2.out hb)
  clear B_2 hb
  have O_s_xs := hid ho
  clear ho
  go_wp2_with fail
  refine (toSettingS_ok A_st c_st st _ (H_st.out.up B_3.out (Nat.le_refl _)) hn2_st).mono ?_
  rintro e w4 ⟨g4, rfl, ho, hb⟩
  have S4 := hid (show w3.heap.size ≤ w4.heap.size from hb.size)
  have B_4 := hid (below_trans B_3.out hb)
  have O_s_xs_4 := hid (O_s_xs.out.below hb)
  clear B_3 O_s_xs hb
  have O_s_st := hid ho
  have OE_s_st := hid (own_lt ho)
  clear ho
  go_wp2_with fail
  refine (specCommit_ok _ xs m memo _ st _ (O_s_xs_4.out.atB hdVersion_length inVersion_len) HK_xs.out hn2_xs HI_xs.out hn_memo (rows_own O_s_st.out (by simp) (cellsSetting_len _)) HK_st.out hn2_st hr).mono ?_
  rintro e w5 ⟨A5, c5, rfl, ho, hb⟩
  have S5 := hid (show w4.heap.size ≤ w5.heap.size from hb.size)
  have B_5 := hid (below_trans B_4.out hb)
  clear B_4 hb
  have R_spec := hid ho
  clear ho
  go_wp2_with fail
  refine (toVersionS_ok A_xs c_xs xs _ (H_xs.out.up B_5.out (Nat.le_refl _)) hn2_xs HI_xs.out).mono ?_
  rintro e w6 ⟨g6, rfl, ho, hb⟩
  have S6 := hid (show w5.heap.size ≤ w6.heap.size from hb.size)
  have B_6 := hid (below_trans B_5.out hb)
  have R_spec_6 := hid (R_spec.out.below hb)
  clear B_5 R_spec hb
  have O_x_xs := hid ho
  clear ho
  go_wp2_with fail
  refine (toSettingS_ok A_st c_st st _ (H_st.out.up B_6.out (Nat.le_refl _)) hn2_st).mono ?_
  rintro e w7 ⟨g7, rfl, ho, hb⟩
  have S7 := hid (show w6.heap.size ≤ w7.heap.size from hb.size)
  have B_7 := hid (below_trans B_6.out hb)
  have R_spec_7 := hid (R_spec_6.out.below hb)
  have O_x_xs_7 := hid (O_x_xs.out.below hb)
  clear B_6 R_spec_6 O_x_xs hb
  have O_x_st := hid ho
  have OE_x_st := hid (own_lt ho)
  clear ho
  go_wp2_with fail
  refine (implCommit_ok _ xs m memo _ st _ (O_x_xs_7.out.atB hdVersion_length inVersion_len) HK_xs.out hn2_xs HI_xs.out hn_memo (rows_own O_x_st.out (by simp) (cellsSetting_len _)) HK_st.out hn2_st hr).mono ?_
  rintro e w8 ⟨A8, c8, rfl, ho, hb⟩
  have S8 := hid (show w7.heap.size ≤ w8.heap.size from hb.size)
  have B_8 := hid (below_trans B_7.out hb)
  have R_spec_8 := hid (R_spec_7.out.below hb)
  have O_x_xs_8 := hid (O_x_xs_7.out.below hb)
  have O_x_st_8 := hid (own_below O_x_st.out hb)
  clear B_7 R_spec_7 O_x_xs_7 O_x_st hb
  have R_impl0 := hid ho
  clear ho
  go_wp2_with fail
  have hrl : (fCommit xs m memo st).1.length ≤ 1048576 := by have := fCommit_small xs m memo st; omega
  have hir : ∀ x ∈ (fCommit xs m memo st).1, x.fIn.length ≤ 1048576 := fCommit_in HI_xs.out hn2_st
  have hev : 0 < endV 1 (fCommit xs m memo st).1 := endV_pos _ _ (by omega)
  refine (eqVersionS_same _ _ _ _ (fCommit xs m memo st).1 _ (R_impl0.out.at hdVersion_length inVersion_len) (R_spec_8.out.at hdVersion_length inVersion_len) hrl hir).mono ?_
  rintro e w9 ⟨rfl, hb⟩
  have S9 := hid (show w8.heap.size ≤ w9.heap.size from hb.size)
  have B_9 := hid (below_trans B_8.out hb)
  have R_spec_9 := hid (R_spec_8.out.below hb)
  have O_x_xs_9 := hid (O_x_xs_8.out.below hb)
  have O_x_st_9 := hid (own_below O_x_st_8.out hb)
  have R_impl0_9 := hid (R_impl0.out.below hb)
  clear B_8 R_spec_8 O_x_xs_8 O_x_st_8 R_impl0 hb
  go_wp2_with fail
  refine (toVersionS_ok A_xs c_xs xs _ (H_xs.out.up B_9.out (Nat.le_refl _)) hn2_xs HI_xs.out).mono ?_
  rintro e w10 ⟨g10, rfl, ho, hb⟩
  have S10 := hid (show w9.heap.size ≤ w10.heap.size from hb.size)
  have B_10 := hid (below_trans B_9.out hb)
  have R_spec_10 := hid (R_spec_9.out.below hb)
  have O_x_xs_10 := hid (O_x_xs_9.out.below hb)
  have O_x_st_10 := hid (own_below O_x_st_9.out hb)
  have R_impl0_10 := hid (R_impl0_9.out.below hb)
  clear B_9 R_spec_9 O_x_xs_9 O_x_st_9 R_impl0_9 hb
  have O_y_xs := hid ho
  clear ho
  go_wp2_with fail
  refine (eqVersionS_same _ _ _ _ xs _ (O_x_xs_10.out.at hdVersion_length inVersion_len) (O_y_xs.out.at hdVersion_length inVersion_len) hn2_xs HI_xs.out).mono ?_
  rintro e w11 ⟨rfl, hb⟩
  have S11 := hid (show w10.heap.size ≤ w11.heap.size from hb.size)
  have B_11 := hid (below_trans B_10.out hb)
  have R_spec_11 := hid (R_spec_10.out.below hb)
  have O_x_xs_11 := hid (O_x_xs_10.out.below hb)
  have O_x_st_11 := hid (own_below O_x_st_10.out hb)
  have R_impl0_11 := hid (R_impl0_10.out.below hb)
  clear B_10 R_spec_10 O_x_xs_10 O_x_st_10 R_impl0_10 hb
  go_wp2_with fail
  refine (toSettingS_ok A_st c_st st _ (H_st.out.up B_11.out (Nat.le_refl _)) hn2_st).mono ?_
  rintro e w12 ⟨g12, rfl, ho, hb⟩
  have S12 := hid (show w11.heap.size ≤ w12.heap.size from hb.size)
  have B_12 := hid (below_trans B_11.out hb)
  have R_spec_12 := hid (R_spec_11.out.below hb)
  have O_x_xs_12 := hid (O_x_xs_11.out.below hb)
  have O_x_st_12 := hid (own_below O_x_st_11.out hb)
  have R_impl0_12 := hid (R_impl0_11.out.below hb)
  clear B_11 R_spec_11 O_x_xs_11 O_x_st_11 R_impl0_11 hb
  have O_y_st := hid ho
  have OE_y_st := hid (own_lt ho)
  clear ho
  go_wp2_with fail
  refine (eqSettingS_same _ _ _ _ st _ (rows_own O_x_st_12.out (by simp) (cellsSetting_len _)) (rows_own O_y_st.out (by simp) (cellsSetting_len _)) hn2_st).mono ?_
  rintro e w13 ⟨rfl, hb⟩
  have S13 := hid (show w12.heap.size ≤ w13.heap.size from hb.size)
  have B_13 := hid (below_trans B_12.out hb)
  have R_spec_13 := hid (R_spec_12.out.below hb)
  have O_x_xs_13 := hid (O_x_xs_12.out.below hb)
  have O_x_st_13 := hid (own_below O_x_st_12.out hb)
  have R_impl0_13 := hid (R_impl0_12.out.below hb)
  clear B_12 R_spec_12 O_x_xs_12 O_x_st_12 R_impl0_12 hb
  go_wp2_with fail
  refine (markVersionS_ok _ _ _ xs _ _ O_x_xs_13.out (by omega) (by omega) hn2_xs HI_xs.out).mono ?_
  rintro e w14 ⟨⟨k14, rfl, kp14, kq14⟩, hq⟩
  have S14 := hid (show w13.heap.size ≤ w14.heap.size from hq.size)
  have B_14 := hid (B_13.out.trans ((hq.below (by have := S1.out; have := S2.out; have := S3.out; have := S4.out; have := S5.out; have := S6.out; have := S7.out; have := S8.out; have := S9.out; have := S10.out; have := S11.out; have := S12.out; have := S13.out; have := S14.out; omega)).mono (by have := S1.out; have := S2.out; have := S3.out; have := S4.out; have := S5.out; have := S6.out; have := S7.out; have := S8.out; have := S9.out; have := S10.out; have := S11.out; have := S12.out; have := S13.out; have := S14.out; omega)))
  have R_spec_14 := hid (R_spec_13.out.low hq (by have := S1.out; have := S2.out; have := S3.out; have := S4.out; have := S5.out; have := S6.out; have := S7.out; have := S8.out; have := S9.out; have := S10.out; have := S11.out; have := S12.out; have := S13.out; have := S14.out; omega))
  have O_x_st_14 := hid (own_chg O_x_st_13.out hq (by have := S1.out; have := S2.out; have := S3.out; have := S4.out; have := S5.out; have := S6.out; have := S7.out; have := S8.out; have := S9.out; have := S10.out; have := S11.out; have := S12.out; have := S13.out; have := S14.out; omega))
  have R_impl0_14 := hid (R_impl0_13.out.high hq (by have := S1.out; have := S2.out; have := S3.out; have := S4.out; have := S5.out; have := S6.out; have := S7.out; have := S8.out; have := S9.out; have := S10.out; have := S11.out; have := S12.out; have := S13.out; have := S14.out; omega))
  clear B_13 R_spec_13 O_x_st_13 R_impl0_13 hq
  go_wp2_with fail
  refine (markSettingS_ok _ _ _ _ w7.heap.size _ _ _ O_x_st_14.out OE_x_st.out (by omega) (by omega) (by omega)).mono ?_
  rintro e w15 ⟨⟨k15, rfl, kp15, kq15⟩, hq⟩
  have S15 := hid (show w14.heap.size ≤ w15.heap.size from hq.size)
  have B_15 := hid (B_14.out.trans ((hq.below (by have := S1.out; have := S2.out; have := S3.out; have := S4.out; have := S5.out; have := S6.out; have := S7.out; have := S8.out; have := S9.out; have := S10.out; have := S11.out; have := S12.out; have := S13.out; have := S14.out; have := S15.out; omega)).mono (by have := S1.out; have := S2.out; have := S3.out; have := S4.out; have := S5.out; have := S6.out; have := S7.out; have := S8.out; have := S9.out; have := S10.out; have := S11.out; have := S12.out; have := S13.out; have := S14.out; have := S15.out; omega)))
  have R_spec_15 := hid (R_spec_14.out.low hq (by have := S1.out; have := S2.out; have := S3.out; have := S4.out; have := S5.out; have := S6.out; have := S7.out; have := S8.out; have := S9.out; have := S10.out; have := S11.out; have := S12.out; have := S13.out; have := S14.out; have := S15.out; omega))
  have R_impl0_15 := hid (R_impl0_14.out.high hq (by have := S1.out; have := S2.out; have := S3.out; have := S4.out; have := S5.out; have := S6.out; have := S7.out; have := S8.out; have := S9.out; have := S10.out; have := S11.out; have := S12.out; have := S13.out; have := S14.out; have := S15.out; omega))
  clear B_14 R_spec_14 R_impl0_14 hq
  go_wp2_with fail
  refine (eqVersionS_same _ _ _ _ (fCommit xs m memo st).1 _ (R_impl0_15.out.at hdVersion_length inVersion_len) (R_spec_15.out.at hdVersion_length inVersion_len) hrl hir).mono ?_
  rintro e w16 ⟨rfl, hb⟩
  have S16 := hid (show w15.heap.size ≤ w16.heap.size from hb.size)
  have B_16 := hid (below_trans B_15.out hb)
  have R_spec_16 := hid (R_spec_15.out.below hb)
  have R_impl0_16 := hid (R_impl0_15.out.below hb)
  clear B_15 R_spec_15 R_impl0_15 hb
  go_wp2_with fail
  refine (markVersionV_ok _ _ _ _ (fCommit xs m memo st).1 _ _ R_impl0_16.out (by omega) (by omega) hrl hir).mono ?_
  rintro e w17 ⟨rfl, ho, hq⟩
  have S17 := hid (show w16.heap.size ≤ w17.heap.size from hq.size)
  have B_17 := hid (B_16.out.trans ((hq.below (by have := S1.out; have := S2.out; have := S3.out; have := S4.out; have := S5.out; have := S6.out; have := S7.out; have := S8.out; have := S9.out; have := S10.out; have := S11.out; have := S12.out; have := S13.out; have := S14.out; have := S15.out; have := S16.out; have := S17.out; omega)).mono (by have := S1.out; have := S2.out; have := S3.out; have := S4.out; have := S5.out; have := S6.out; have := S7.out; have := S8.out; have := S9.out; have := S10.out; have := S11.out; have := S12.out; have := S13.out; have := S14.out; have := S15.out; have := S16.out; have := S17.out; omega)))
  have R_spec_17 := hid (R_spec_16.out.low hq (by have := S1.out; have := S2.out; have := S3.out; have := S4.out; have := S5.out; have := S6.out; have := S7.out; have := S8.out; have := S9.out; have := S10.out; have := S11.out; have := S12.out; have := S13.out; have := S14.out; have := S15.out; have := S16.out; have := S17.out; omega))
  clear B_16 R_spec_16 hq
  have M0 := hid ho
  clear ho
  go_wp2_with fail
  refine (heldVersionS_ok _ _ (fCommit xs m memo st).1 _ _ (M0.out.at hdVersion_length inVersion_len) (by omega) (by omega) hrl hir).mono ?_
  rintro e w18 ⟨rfl, hb⟩
  have S18 := hid (show w17.heap.size ≤ w18.heap.size from hb.size)
  have B_18 := hid (below_trans B_17.out hb)
  have R_spec_18 := hid (R_spec_17.out.below hb)
  have M_18 := hid (M0.out.below hb)
  clear B_17 R_spec_17 M0 hb
  go_wp2_with fail
  refine (toVersionS_ok A_xs c_xs xs _ (H_xs.out.up B_18.out (Nat.le_refl _)) hn2_xs HI_xs.out).mono ?_
  rintro e w19 ⟨g19, rfl, ho, hb⟩
  have S19 := hid (show w18.heap.size ≤ w19.heap.size from hb.size)
  have B_19 := hid (below_trans B_18.out hb)
  have R_spec_19 := hid (R_spec_18.out.below hb)
  have M_19 := hid (M_18.out.below hb)
  clear B_18 R_spec_18 M_18 hb
  have O_z_xs := hid ho
  clear ho
  go_wp2_with fail
  refine (toSettingS_ok A_st c_st st _ (H_st.out.up B_19.out (Nat.le_refl _)) hn2_st).mono ?_
  rintro e w20 ⟨g20, rfl, ho, hb⟩
  have S20 := hid (show w19.heap.size ≤ w20.heap.size from hb.size)
  have B_20 := hid (below_trans B_19.out hb)
  have R_spec_20 := hid (R_spec_19.out.below hb)
  have M_20 := hid (M_19.out.below hb)
  have O_z_xs_20 := hid (O_z_xs.out.below hb)
  clear B_19 R_spec_19 M_19 O_z_xs hb
  have O_z_st := hid ho
  have OE_z_st := hid (own_lt ho)
  clear ho
  go_wp2_with fail
  refine (implCommit_ok _ xs m memo _ st _ (O_z_xs_20.out.atB hdVersion_length inVersion_len) HK_xs.out hn2_xs HI_xs.out hn_memo (rows_own O_z_st.out (by simp) (cellsSetting_len _)) HK_st.out hn2_st hr).mono ?_
  rintro e w21 ⟨A21, c21, rfl, ho, hb⟩
  have S21 := hid (show w20.heap.size ≤ w21.heap.size from hb.size)
  have B_21 := hid (below_trans B_20.out hb)
  have R_spec_21 := hid (R_spec_20.out.below hb)
  have M_21 := hid (M_20.out.below hb)
  clear B_20 R_spec_20 M_20 hb
  have R_impl1 := hid ho
  clear ho
  go_wp2_with fail
  refine (eqVersionS_same _ _ _ _ (fCommit xs m memo st).1 _ (R_impl1.out.at hdVersion_length inVersion_len) (R_spec_21.out.at hdVersion_length inVersion_len) hrl hir).mono ?_
  rintro e w22 ⟨rfl, hb⟩
  have S22 := hid (show w21.heap.size ≤ w22.heap.size from hb.size)
  have B_22 := hid (below_trans B_21.out hb)
  have R_spec_22 := hid (R_spec_21.out.below hb)
  have M_22 := hid (M_21.out.below hb)
  have R_impl1_22 := hid (R_impl1.out.below hb)
  clear B_21 R_spec_21 M_21 R_impl1 hb
  go_wp2_with fail
  refine (heldVersionS_ok _ _ (fCommit xs m memo st).1 _ _ (M_22.out.at hdVersion_length inVersion_len) (by omega) (by omega) hrl hir).mono ?_
  rintro e w23 ⟨rfl, hb⟩
  have S23 := hid (show w22.heap.size ≤ w23.heap.size from hb.size)
  have B_23 := hid (below_trans B_22.out hb)
  have R_spec_23 := hid (R_spec_22.out.below hb)
  have M_23 := hid (M_22.out.below hb)
  have R_impl1_23 := hid (R_impl1_22.out.below hb)
  clear B_22 R_spec_22 M_22 R_impl1_22 hb
  go_wp2_with fail
  go_ret
  exact ⟨rfl, B_23.out⟩

end Go.Proofs.Ytjeklbhdngkngaa
