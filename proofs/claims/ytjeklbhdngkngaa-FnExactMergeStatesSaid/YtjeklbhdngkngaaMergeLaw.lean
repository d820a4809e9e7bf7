/- The law FnExactMergeStates. -/
import Derived.Test.YtjeklbhdngkngaaMergeS
namespace Go.Proofs.Ytjeklbhdngkngaa
open Go.RowKit
set_option linter.unusedVariables false

set_option maxHeartbeats 3200000 in
set_option maxRecDepth 100000 in
theorem lawMergeStates_ok (A_rs : Option Addr) (c_rs : Nat) (rs : List DSetting) (A_ss : Option Addr) (c_ss : Nat) (ss : List DSetting) (A_ts : Option Addr) (c_ts : Nat) (ts : List DSetting) (w : World) (h_rs : RowsAt w 2 A_rs (rs.map DSetting.cells)) (hk_rs : ∀ x ∈ rs, x.ok) (hn_rs : rs.length ≤ maxLen) (h_ss : RowsAt w 2 A_ss (ss.map DSetting.cells)) (hk_ss : ∀ x ∈ ss, x.ok) (hn_ss : ss.length ≤ maxLen) (h_ts : RowsAt w 2 A_ts (ts.map DSetting.cells)) (hk_ts : ∀ x ∈ ts, x.ok) (hn_ts : ts.length ≤ maxLen)  :
    Calls Try.prog 3 #[.slice A_rs rs.length c_rs, .slice A_ss ss.length c_ss, .slice A_ts ts.length c_ts] w fun e w' => e = .returned (.bool true) ∧ Below w.heap.size w w' := by
  have H_rs := hid h_rs
  have HK_rs := hid hk_rs
  clear h_rs hk_rs
  have H_ss := hid h_ss
  have HK_ss := hid hk_ss
  clear h_ss hk_ss
  have H_ts := hid h_ts
  have HK_ts := hid hk_ts
  clear h_ts hk_ts
  go_enter Try.func3, Try.ntmps3
  go_wp2_with fail
  have B_0 := hid (Below.refl w.heap.size w)
  refine (szSettingS_ok A_rs c_rs rs _ _ H_rs.out HK_rs.out hn_rs (by omega) (by omega)).mono ?_
  rintro e w1 ⟨⟨z_rs, rfl, z1_rs, z2_rs, z3_rs⟩, hb⟩
  have Z_rs := hid z3_rs
  clear z3_rs
  have S1 := hid (show w.heap.size ≤ w1.heap.size from hb.size)
  have B_1 := hid (below_trans B_0.out hb)
  clear B_0 hb
  go_wp2_with fail
  · go_ret
    exact ⟨rfl, B_1.out⟩
  have hn2_rs : rs.length ≤ 1048576 := by have := Z_rs.out ‹_›; omega
  clear Z_rs
  refine (szSettingS_ok A_ss c_ss ss _ _ (H_ss.out.up B_1.out (Nat.le_refl _)) HK_ss.out hn_ss (by omega) (by omega)).mono ?_
  rintro e w2 ⟨⟨z_ss, rfl, z1_ss, z2_ss, z3_ss⟩, hb⟩
  have Z_ss := hid z3_ss
  clear z3_ss
  have S2 := hid (show w1.heap.size ≤ w2.heap.size from hb.size)
  have B_2 := hid (below_trans B_1.out hb)
  clear B_1 hb
  go_wp2_with fail
  · go_ret
    exact ⟨rfl, B_2.out⟩
  have hn2_ss : ss.length ≤ 1048576 := by have := Z_ss.out ‹_›; omega
  clear Z_ss
  refine (szSettingS_ok A_ts c_ts ts _ _ (H_ts.out.up B_2.out (Nat.le_refl _)) HK_ts.out hn_ts (by omega) (by omega)).mono ?_
  rintro e w3 ⟨⟨z_ts, rfl, z1_ts, z2_ts, z3_ts⟩, hb⟩
  have Z_ts := hid z3_ts
  clear z3_ts
  have S3 := hid (show w2.heap.size ≤ w3.heap.size from hb.size)
  have B_3 := hid (below_trans B_2.out hb)
  clear B_2 hb
  go_wp2_with fail
  · go_ret
    exact ⟨rfl, B_3.out⟩
  have hn2_ts : ts.length ≤ 1048576 := by have := Z_ts.out ‹_›; omega
  clear Z_ts
  refine (toSettingS_ok A_rs c_rs rs _ (H_rs.out.up B_3.out (Nat.le_refl _)) hn2_rs).mono ?_
  rintro e w4 ⟨g4, rfl, ho, hb⟩
  have S4 := hid (show w3.heap.size ≤ w4.heap.size from hb.size)
  have B_4 := hid (below_trans B_3.out hb)
  clear B_3 hb
  have O_s_rs := hid ho
  have OE_s_rs := hid (own_lt ho)
  clear ho
  go_wp2_with fail
  refine (toSettingS_ok A_ss c_ss ss _ (H_ss.out.up B_4.out (Nat.le_refl _)) hn2_ss).mono ?_
  rintro e w5 ⟨g5, rfl, ho, hb⟩
  have S5 := hid (show w4.heap.size ≤ w5.heap.size from hb.size)
  have B_5 := hid (below_trans B_4.out hb)
  have O_s_rs_5 := hid (own_below O_s_rs.out hb)
  clear B_4 O_s_rs hb
  have O_s_ss := hid ho
  have OE_s_ss := hid (own_lt ho)
  clear ho
  go_wp2_with fail
  refine (toSettingS_ok A_ts c_ts ts _ (H_ts.out.up B_5.out (Nat.le_refl _)) hn2_ts).mono ?_
  rintro e w6 ⟨g6, rfl, ho, hb⟩
  have S6 := hid (show w5.heap.size ≤ w6.heap.size from hb.size)
  have B_6 := hid (below_trans B_5.out hb)
  have O_s_rs_6 := hid (own_below O_s_rs_5.out hb)
  have O_s_ss_6 := hid (own_below O_s_ss.out hb)
  clear B_5 O_s_rs_5 O_s_ss hb
  have O_s_ts := hid ho
  have OE_s_ts := hid (own_lt ho)
  clear ho
  go_wp2_with fail
  refine (specMerge_ok _ _ rs _ _ ss _ _ ts _ (rows_own O_s_rs_6.out (by simp) (cellsSetting_len _)) HK_rs.out hn2_rs (rows_own O_s_ss_6.out (by simp) (cellsSetting_len _)) HK_ss.out hn2_ss (rows_own O_s_ts.out (by simp) (cellsSetting_len _)) HK_ts.out hn2_ts ).mono ?_
  rintro e w7 ⟨A7, c7, rfl, ho, hno7, hb⟩
  have S7 := hid (show w6.heap.size ≤ w7.heap.size from hb.size)
  have B_7 := hid (below_trans B_6.out hb)
  clear B_6 hb
  have R_spec := hid ho
  have RE_spec := hid (own_lt ho)
  clear ho
  go_wp2_with fail
  refine (toSettingS_ok A_rs c_rs rs _ (H_rs.out.up B_7.out (Nat.le_refl _)) hn2_rs).mono ?_
  rintro e w8 ⟨g8, rfl, ho, hb⟩
  have S8 := hid (show w7.heap.size ≤ w8.heap.size from hb.size)
  have B_8 := hid (below_trans B_7.out hb)
  have R_spec_8 := hid (own_below R_spec.out hb)
  clear B_7 R_spec hb
  have O_x_rs := hid ho
  have OE_x_rs := hid (own_lt ho)
  clear ho
  go_wp2_with fail
  refine (toSettingS_ok A_ss c_ss ss _ (H_ss.out.up B_8.out (Nat.le_refl _)) hn2_ss).mono ?_
  rintro e w9 ⟨g9, rfl, ho, hb⟩
  have S9 := hid (show w8.heap.size ≤ w9.heap.size from hb.size)
  have B_9 := hid (below_trans B_8.out hb)
  have R_spec_9 := hid (own_below R_spec_8.out hb)
  have O_x_rs_9 := hid (own_below O_x_rs.out hb)
  clear B_8 R_spec_8 O_x_rs hb
  have O_x_ss := hid ho
  have OE_x_ss := hid (own_lt ho)
  clear ho
  go_wp2_with fail
  refine (toSettingS_ok A_ts c_ts ts _ (H_ts.out.up B_9.out (Nat.le_refl _)) hn2_ts).mono ?_
  rintro e w10 ⟨g10, rfl, ho, hb⟩
  have S10 := hid (show w9.heap.size ≤ w10.heap.size from hb.size)
  have B_10 := hid (below_trans B_9.out hb)
  have R_spec_10 := hid (own_below R_spec_9.out hb)
  have O_x_rs_10 := hid (own_below O_x_rs_9.out hb)
  have O_x_ss_10 := hid (own_below O_x_ss.out hb)
  clear B_9 R_spec_9 O_x_rs_9 O_x_ss hb
  have O_x_ts := hid ho
  have OE_x_ts := hid (own_lt ho)
  clear ho
  go_wp2_with fail
  refine (implMerge_ok _ _ rs _ _ ss _ _ ts _ (rows_own O_x_rs_10.out (by simp) (cellsSetting_len _)) HK_rs.out hn2_rs (rows_own O_x_ss_10.out (by simp) (cellsSetting_len _)) HK_ss.out hn2_ss (rows_own O_x_ts.out (by simp) (cellsSetting_len _)) HK_ts.out hn2_ts ).mono ?_
  rintro e w11 ⟨A11, c11, rfl, ho, hno11, hb⟩
  have S11 := hid (show w10.heap.size ≤ w11.heap.size from hb.size)
  have B_11 := hid (below_trans B_10.out hb)
  have R_spec_11 := hid (own_below R_spec_10.out hb)
  have O_x_rs_11 := hid (own_below O_x_rs_10.out hb)
  have O_x_ss_11 := hid (own_below O_x_ss_10.out hb)
  have O_x_ts_11 := hid (own_below O_x_ts.out hb)
  clear B_10 R_spec_10 O_x_rs_10 O_x_ss_10 O_x_ts hb
  have R_impl0 := hid ho
  have RE_impl0 := hid (own_lt ho)
  clear ho
  go_wp2_with fail
  have hrl : (fMerge rs ss ts).1.length ≤ 1048576 := Nat.le_trans (fMerge_small rs ss ts) (by omega)
  refine (eqSettingS_same _ _ _ _ (fMerge rs ss ts).1 _ (rows_own R_impl0.out (by simp) (cellsSetting_len _)) (rows_own R_spec_11.out (by simp) (cellsSetting_len _)) hrl).mono ?_
  rintro e w12 ⟨rfl, hb⟩
  have S12 := hid (show w11.heap.size ≤ w12.heap.size from hb.size)
  have B_12 := hid (below_trans B_11.out hb)
  have R_spec_12 := hid (own_below R_spec_11.out hb)
  have O_x_rs_12 := hid (own_below O_x_rs_11.out hb)
  have O_x_ss_12 := hid (own_below O_x_ss_11.out hb)
  have O_x_ts_12 := hid (own_below O_x_ts_11.out hb)
  have R_impl0_12 := hid (own_below R_impl0.out hb)
  clear B_11 R_spec_11 O_x_rs_11 O_x_ss_11 O_x_ts_11 R_impl0 hb
  go_wp2_with fail
  refine (toSettingS_ok A_rs c_rs rs _ (H_rs.out.up B_12.out (Nat.le_refl _)) hn2_rs).mono ?_
  rintro e w13 ⟨g13, rfl, ho, hb⟩
  have S13 := hid (show w12.heap.size ≤ w13.heap.size from hb.size)
  have B_13 := hid (below_trans B_12.out hb)
  have R_spec_13 := hid (own_below R_spec_12.out hb)
  have O_x_rs_13 := hid (own_below O_x_rs_12.out hb)
  have O_x_ss_13 := hid (own_below O_x_ss_12.out hb)
  have O_x_ts_13 := hid (own_below O_x_ts_12.out hb)
  have R_impl0_13 := hid (own_below R_impl0_12.out hb)
  clear B_12 R_spec_12 O_x_rs_12 O_x_ss_12 O_x_ts_12 R_impl0_12 hb
  have O_y_rs := hid ho
  have OE_y_rs := hid (own_lt ho)
  clear ho
  go_wp2_with fail
  refine (eqSettingS_same _ _ _ _ rs _ (rows_own O_x_rs_13.out (by simp) (cellsSetting_len _)) (rows_own O_y_rs.out (by simp) (cellsSetting_len _)) hn2_rs).mono ?_
  rintro e w14 ⟨rfl, hb⟩
  have S14 := hid (show w13.heap.size ≤ w14.heap.size from hb.size)
  have B_14 := hid (below_trans B_13.out hb)
  have R_spec_14 := hid (own_below R_spec_13.out hb)
  have O_x_rs_14 := hid (own_below O_x_rs_13.out hb)
  have O_x_ss_14 := hid (own_below O_x_ss_13.out hb)
  have O_x_ts_14 := hid (own_below O_x_ts_13.out hb)
  have R_impl0_14 := hid (own_below R_impl0_13.out hb)
  clear B_13 R_spec_13 O_x_rs_13 O_x_ss_13 O_x_ts_13 R_impl0_13 hb
  go_wp2_with fail
  refine (toSettingS_ok A_ss c_ss ss _ (H_ss.out.up B_14.out (Nat.le_refl _)) hn2_ss).mono ?_
  rintro e w15 ⟨g15, rfl, ho, hb⟩
  have S15 := hid (show w14.heap.size ≤ w15.heap.size from hb.size)
  have B_15 := hid (below_trans B_14.out hb)
  have R_spec_15 := hid (own_below R_spec_14.out hb)
  have O_x_rs_15 := hid (own_below O_x_rs_14.out hb)
  have O_x_ss_15 := hid (own_below O_x_ss_14.out hb)
  have O_x_ts_15 := hid (own_below O_x_ts_14.out hb)
  have R_impl0_15 := hid (own_below R_impl0_14.out hb)
  clear B_14 R_spec_14 O_x_rs_14 O_x_ss_14 O_x_ts_14 R_impl0_14 hb
  have O_y_ss := hid ho
  have OE_y_ss := hid (own_lt ho)
  clear ho
  go_wp2_with fail
  refine (eqSettingS_same _ _ _ _ ss _ (rows_own O_x_ss_15.out (by simp) (cellsSetting_len _)) (rows_own O_y_ss.out (by simp) (cellsSetting_len _)) hn2_ss).mono ?_
  rintro e w16 ⟨rfl, hb⟩
  have S16 := hid (show w15.heap.size ≤ w16.heap.size from hb.size)
  have B_16 := hid (below_trans B_15.out hb)
  have R_spec_16 := hid (own_below R_spec_15.out hb)
  have O_x_rs_16 := hid (own_below O_x_rs_15.out hb)
  have O_x_ss_16 := hid (own_below O_x_ss_15.out hb)
  have O_x_ts_16 := hid (own_below O_x_ts_15.out hb)
  have R_impl0_16 := hid (own_below R_impl0_15.out hb)
  clear B_15 R_spec_15 O_x_rs_15 O_x_ss_15 O_x_ts_15 R_impl0_15 hb
  go_wp2_with fail
  refine (toSettingS_ok A_ts c_ts ts _ (H_ts.out.up B_16.out (Nat.le_refl _)) hn2_ts).mono ?_
  rintro e w17 ⟨g17, rfl, ho, hb⟩
  have S17 := hid (show w16.heap.size ≤ w17.heap.size from hb.size)
  have B_17 := hid (below_trans B_16.out hb)
  have R_spec_17 := hid (own_below R_spec_16.out hb)
  have O_x_rs_17 := hid (own_below O_x_rs_16.out hb)
  have O_x_ss_17 := hid (own_below O_x_ss_16.out hb)
  have O_x_ts_17 := hid (own_below O_x_ts_16.out hb)
  have R_impl0_17 := hid (own_below R_impl0_16.out hb)
  clear B_16 R_spec_16 O_x_rs_16 O_x_ss_16 O_x_ts_16 R_impl0_16 hb
  have O_y_ts := hid ho
  have OE_y_ts := hid (own_lt ho)
  clear ho
  go_wp2_with fail
  refine (eqSettingS_same _ _ _ _ ts _ (rows_own O_x_ts_17.out (by simp) (cellsSetting_len _)) (rows_own O_y_ts.out (by simp) (cellsSetting_len _)) hn2_ts).mono ?_
  rintro e w18 ⟨rfl, hb⟩
  have S18 := hid (show w17.heap.size ≤ w18.heap.size from hb.size)
  have B_18 := hid (below_trans B_17.out hb)
  have R_spec_18 := hid (own_below R_spec_17.out hb)
  have O_x_rs_18 := hid (own_below O_x_rs_17.out hb)
  have O_x_ss_18 := hid (own_below O_x_ss_17.out hb)
  have O_x_ts_18 := hid (own_below O_x_ts_17.out hb)
  have R_impl0_18 := hid (own_below R_impl0_17.out hb)
  clear B_17 R_spec_17 O_x_rs_17 O_x_ss_17 O_x_ts_17 R_impl0_17 hb
  go_wp2_with fail
  refine (markSettingS_ok _ _ _ _ w8.heap.size _ _ _ O_x_rs_18.out OE_x_rs.out (by omega) (by omega) (by omega)).mono ?_
  rintro e w19 ⟨⟨k19, rfl, kp19, kq19⟩, hq⟩
  have S19 := hid (show w18.heap.size ≤ w19.heap.size from hq.size)
  have B_19 := hid (B_18.out.trans ((hq.below (by have := S1.out; have := S2.out; have := S3.out; have := S4.out; have := S5.out; have := S6.out; have := S7.out; have := S8.out; have := S9.out; have := S10.out; have := S11.out; have := S12.out; have := S13.out; have := S14.out; have := S15.out; have := S16.out; have := S17.out; have := S18.out; have := S19.out; omega)).mono (by have := S1.out; have := S2.out; have := S3.out; have := S4.out; have := S5.out; have := S6.out; have := S7.out; have := S8.out; have := S9.out; have := S10.out; have := S11.out; have := S12.out; have := S13.out; have := S14.out; have := S15.out; have := S16.out; have := S17.out; have := S18.out; have := S19.out; omega)))
  have R_spec_19 := hid (own_low R_spec_18.out RE_spec.out hq (by have := S1.out; have := S2.out; have := S3.out; have := S4.out; have := S5.out; have := S6.out; have := S7.out; have := S8.out; have := S9.out; have := S10.out; have := S11.out; have := S12.out; have := S13.out; have := S14.out; have := S15.out; have := S16.out; have := S17.out; have := S18.out; have := S19.out; omega))
  have O_x_ss_19 := hid (own_chg O_x_ss_18.out hq (by have := S1.out; have := S2.out; have := S3.out; have := S4.out; have := S5.out; have := S6.out; have := S7.out; have := S8.out; have := S9.out; have := S10.out; have := S11.out; have := S12.out; have := S13.out; have := S14.out; have := S15.out; have := S16.out; have := S17.out; have := S18.out; have := S19.out; omega))
  have O_x_ts_19 := hid (own_chg O_x_ts_18.out hq (by have := S1.out; have := S2.out; have := S3.out; have := S4.out; have := S5.out; have := S6.out; have := S7.out; have := S8.out; have := S9.out; have := S10.out; have := S11.out; have := S12.out; have := S13.out; have := S14.out; have := S15.out; have := S16.out; have := S17.out; have := S18.out; have := S19.out; omega))
  have R_impl0_19 := hid (own_chg R_impl0_18.out hq (by have := S1.out; have := S2.out; have := S3.out; have := S4.out; have := S5.out; have := S6.out; have := S7.out; have := S8.out; have := S9.out; have := S10.out; have := S11.out; have := S12.out; have := S13.out; have := S14.out; have := S15.out; have := S16.out; have := S17.out; have := S18.out; have := S19.out; omega))
  clear B_18 R_spec_18 O_x_ss_18 O_x_ts_18 R_impl0_18 hq
  go_wp2_with fail
  refine (markSettingS_ok _ _ _ _ w9.heap.size _ _ _ O_x_ss_19.out OE_x_ss.out (by omega) (by omega) (by omega)).mono ?_
  rintro e w20 ⟨⟨k20, rfl, kp20, kq20⟩, hq⟩
  have S20 := hid (show w19.heap.size ≤ w20.heap.size from hq.size)
  have B_20 := hid (B_19.out.trans ((hq.below (by have := S1.out; have := S2.out; have := S3.out; have := S4.out; have := S5.out; have := S6.out; have := S7.out; have := S8.out; have := S9.out; have := S10.out; have := S11.out; have := S12.out; have := S13.out; have := S14.out; have := S15.out; have := S16.out; have := S17.out; have := S18.out; have := S19.out; have := S20.out; omega)).mono (by have := S1.out; have := S2.out; have := S3.out; have := S4.out; have := S5.out; have := S6.out; have := S7.out; have := S8.out; have := S9.out; have := S10.out; have := S11.out; have := S12.out; have := S13.out; have := S14.out; have := S15.out; have := S16.out; have := S17.out; have := S18.out; have := S19.out; have := S20.out; omega)))
  have R_spec_20 := hid (own_low R_spec_19.out RE_spec.out hq (by have := S1.out; have := S2.out; have := S3.out; have := S4.out; have := S5.out; have := S6.out; have := S7.out; have := S8.out; have := S9.out; have := S10.out; have := S11.out; have := S12.out; have := S13.out; have := S14.out; have := S15.out; have := S16.out; have := S17.out; have := S18.out; have := S19.out; have := S20.out; omega))
  have O_x_ts_20 := hid (own_chg O_x_ts_19.out hq (by have := S1.out; have := S2.out; have := S3.out; have := S4.out; have := S5.out; have := S6.out; have := S7.out; have := S8.out; have := S9.out; have := S10.out; have := S11.out; have := S12.out; have := S13.out; have := S14.out; have := S15.out; have := S16.out; have := S17.out; have := S18.out; have := S19.out; have := S20.out; omega))
  have R_impl0_20 := hid (own_chg R_impl0_19.out hq (by have := S1.out; have := S2.out; have := S3.out; have := S4.out; have := S5.out; have := S6.out; have := S7.out; have := S8.out; have := S9.out; have := S10.out; have := S11.out; have := S12.out; have := S13.out; have := S14.out; have := S15.out; have := S16.out; have := S17.out; have := S18.out; have := S19.out; have := S20.out; omega))
  clear B_19 R_spec_19 O_x_ts_19 R_impl0_19 hq
  go_wp2_with fail
  refine (markSettingS_ok _ _ _ _ w10.heap.size _ _ _ O_x_ts_20.out OE_x_ts.out (by omega) (by omega) (by omega)).mono ?_
  rintro e w21 ⟨⟨k21, rfl, kp21, kq21⟩, hq⟩
  have S21 := hid (show w20.heap.size ≤ w21.heap.size from hq.size)
  have B_21 := hid (B_20.out.trans ((hq.below (by have := S1.out; have := S2.out; have := S3.out; have := S4.out; have := S5.out; have := S6.out; have := S7.out; have := S8.out; have := S9.out; have := S10.out; have := S11.out; have := S12.out; have := S13.out; have := S14.out; have := S15.out; have := S16.out; have := S17.out; have := S18.out; have := S19.out; have := S20.out; have := S21.out; omega)).mono (by have := S1.out; have := S2.out; have := S3.out; have := S4.out; have := S5.out; have := S6.out; have := S7.out; have := S8.out; have := S9.out; have := S10.out; have := S11.out; have := S12.out; have := S13.out; have := S14.out; have := S15.out; have := S16.out; have := S17.out; have := S18.out; have := S19.out; have := S20.out; have := S21.out; omega)))
  have R_spec_21 := hid (own_low R_spec_20.out RE_spec.out hq (by have := S1.out; have := S2.out; have := S3.out; have := S4.out; have := S5.out; have := S6.out; have := S7.out; have := S8.out; have := S9.out; have := S10.out; have := S11.out; have := S12.out; have := S13.out; have := S14.out; have := S15.out; have := S16.out; have := S17.out; have := S18.out; have := S19.out; have := S20.out; have := S21.out; omega))
  have R_impl0_21 := hid (own_chg R_impl0_20.out hq (by have := S1.out; have := S2.out; have := S3.out; have := S4.out; have := S5.out; have := S6.out; have := S7.out; have := S8.out; have := S9.out; have := S10.out; have := S11.out; have := S12.out; have := S13.out; have := S14.out; have := S15.out; have := S16.out; have := S17.out; have := S18.out; have := S19.out; have := S20.out; have := S21.out; omega))
  clear B_20 R_spec_20 R_impl0_20 hq
  go_wp2_with fail
  refine (eqSettingS_same _ _ _ _ (fMerge rs ss ts).1 _ (rows_own R_impl0_21.out (by simp) (cellsSetting_len _)) (rows_own R_spec_21.out (by simp) (cellsSetting_len _)) hrl).mono ?_
  rintro e w22 ⟨rfl, hb⟩
  have S22 := hid (show w21.heap.size ≤ w22.heap.size from hb.size)
  have B_22 := hid (below_trans B_21.out hb)
  have R_spec_22 := hid (own_below R_spec_21.out hb)
  have R_impl0_22 := hid (own_below R_impl0_21.out hb)
  clear B_21 R_spec_21 R_impl0_21 hb
  go_wp2_with fail
  refine (markSettingX_ok _ _ _ w11.heap.size (fMerge rs ss ts).1 _ _ R_impl0_22.out RE_impl0.out (by omega) (by omega) (by omega)).mono ?_
  rintro e w23 ⟨rfl, ho, hq⟩
  have S23 := hid (show w22.heap.size ≤ w23.heap.size from hq.size)
  have B_23 := hid (B_22.out.trans ((hq.below (by have := S1.out; have := S2.out; have := S3.out; have := S4.out; have := S5.out; have := S6.out; have := S7.out; have := S8.out; have := S9.out; have := S10.out; have := S11.out; have := S12.out; have := S13.out; have := S14.out; have := S15.out; have := S16.out; have := S17.out; have := S18.out; have := S19.out; have := S20.out; have := S21.out; have := S22.out; have := S23.out; omega)).mono (by have := S1.out; have := S2.out; have := S3.out; have := S4.out; have := S5.out; have := S6.out; have := S7.out; have := S8.out; have := S9.out; have := S10.out; have := S11.out; have := S12.out; have := S13.out; have := S14.out; have := S15.out; have := S16.out; have := S17.out; have := S18.out; have := S19.out; have := S20.out; have := S21.out; have := S22.out; have := S23.out; omega)))
  have R_spec_23 := hid (own_low R_spec_22.out RE_spec.out hq (by have := S1.out; have := S2.out; have := S3.out; have := S4.out; have := S5.out; have := S6.out; have := S7.out; have := S8.out; have := S9.out; have := S10.out; have := S11.out; have := S12.out; have := S13.out; have := S14.out; have := S15.out; have := S16.out; have := S17.out; have := S18.out; have := S19.out; have := S20.out; have := S21.out; have := S22.out; have := S23.out; omega))
  clear B_22 R_spec_22 hq
  have M0 := hid ho
  clear ho
  go_wp2_with fail
  refine (heldSettingS_ok _ _ (fMerge rs ss ts).1.length _ _ (rows_own M0.out (by simp [mksSetting_length]) (cellsSetting_len _)) (by omega) (by omega) (by omega)).mono ?_
  rintro e w24 ⟨rfl, hb⟩
  have S24 := hid (show w23.heap.size ≤ w24.heap.size from hb.size)
  have B_24 := hid (below_trans B_23.out hb)
  have R_spec_24 := hid (own_below R_spec_23.out hb)
  have M_24 := hid (own_below M0.out hb)
  clear B_23 R_spec_23 M0 hb
  go_wp2_with fail
  refine (toSettingS_ok A_rs c_rs rs _ (H_rs.out.up B_24.out (Nat.le_refl _)) hn2_rs).mono ?_
  rintro e w25 ⟨g25, rfl, ho, hb⟩
  have S25 := hid (show w24.heap.size ≤ w25.heap.size from hb.size)
  have B_25 := hid (below_trans B_24.out hb)
  have R_spec_25 := hid (own_below R_spec_24.out hb)
  have M_25 := hid (own_below M_24.out hb)
  clear B_24 R_spec_24 M_24 hb
  have O_z_rs := hid ho
  have OE_z_rs := hid (own_lt ho)
  clear ho
  go_wp2_with fail
  refine (toSettingS_ok A_ss c_ss ss _ (H_ss.out.up B_25.out (Nat.le_refl _)) hn2_ss).mono ?_
  rintro e w26 ⟨g26, rfl, ho, hb⟩
  have S26 := hid (show w25.heap.size ≤ w26.heap.size from hb.size)
  have B_26 := hid (below_trans B_25.out hb)
  have R_spec_26 := hid (own_below R_spec_25.out hb)
  have M_26 := hid (own_below M_25.out hb)
  have O_z_rs_26 := hid (own_below O_z_rs.out hb)
  clear B_25 R_spec_25 M_25 O_z_rs hb
  have O_z_ss := hid ho
  have OE_z_ss := hid (own_lt ho)
  clear ho
  go_wp2_with fail
  refine (toSettingS_ok A_ts c_ts ts _ (H_ts.out.up B_26.out (Nat.le_refl _)) hn2_ts).mono ?_
  rintro e w27 ⟨g27, rfl, ho, hb⟩
  have S27 := hid (show w26.heap.size ≤ w27.heap.size from hb.size)
  have B_27 := hid (below_trans B_26.out hb)
  have R_spec_27 := hid (own_below R_spec_26.out hb)
  have M_27 := hid (own_below M_26.out hb)
  have O_z_rs_27 := hid (own_below O_z_rs_26.out hb)
  have O_z_ss_27 := hid (own_below O_z_ss.out hb)
  clear B_26 R_spec_26 M_26 O_z_rs_26 O_z_ss hb
  have O_z_ts := hid ho
  have OE_z_ts := hid (own_lt ho)
  clear ho
  go_wp2_with fail
  refine (implMerge_ok _ _ rs _ _ ss _ _ ts _ (rows_own O_z_rs_27.out (by simp) (cellsSetting_len _)) HK_rs.out hn2_rs (rows_own O_z_ss_27.out (by simp) (cellsSetting_len _)) HK_ss.out hn2_ss (rows_own O_z_ts.out (by simp) (cellsSetting_len _)) HK_ts.out hn2_ts ).mono ?_
  rintro e w28 ⟨A28, c28, rfl, ho, hno28, hb⟩
  have S28 := hid (show w27.heap.size ≤ w28.heap.size from hb.size)
  have B_28 := hid (below_trans B_27.out hb)
  have R_spec_28 := hid (own_below R_spec_27.out hb)
  have M_28 := hid (own_below M_27.out hb)
  clear B_27 R_spec_27 M_27 hb
  have R_impl1 := hid ho
  have RE_impl1 := hid (own_lt ho)
  clear ho
  go_wp2_with fail
  refine (eqSettingS_same _ _ _ _ (fMerge rs ss ts).1 _ (rows_own R_impl1.out (by simp) (cellsSetting_len _)) (rows_own R_spec_28.out (by simp) (cellsSetting_len _)) hrl).mono ?_
  rintro e w29 ⟨rfl, hb⟩
  have S29 := hid (show w28.heap.size ≤ w29.heap.size from hb.size)
  have B_29 := hid (below_trans B_28.out hb)
  have R_spec_29 := hid (own_below R_spec_28.out hb)
  have M_29 := hid (own_below M_28.out hb)
  have R_impl1_29 := hid (own_below R_impl1.out hb)
  clear B_28 R_spec_28 M_28 R_impl1 hb
  go_wp2_with fail
  refine (heldSettingS_ok _ _ (fMerge rs ss ts).1.length _ _ (rows_own M_29.out (by simp [mksSetting_length]) (cellsSetting_len _)) (by omega) (by omega) (by omega)).mono ?_
  rintro e w30 ⟨rfl, hb⟩
  have S30 := hid (show w29.heap.size ≤ w30.heap.size from hb.size)
  have B_30 := hid (below_trans B_29.out hb)
  have R_spec_30 := hid (own_below R_spec_29.out hb)
  have M_30 := hid (own_below M_29.out hb)
  have R_impl1_30 := hid (own_below R_impl1_29.out hb)
  clear B_29 R_spec_29 M_29 R_impl1_29 hb
  go_wp2_with fail
  go_ret
  exact ⟨rfl, B_30.out⟩

end Go.Proofs.Ytjeklbhdngkngaa
