/- The law FnExactGlueJoints. -/
import Derived.Test.YtdbjbkdcmhekfaaGluF
import Derived.Test.YtdbjbkdcmhekfaaMPot
import Derived.Test.YtdbjbkdcmhekfaaInts
namespace Go.Proofs.Ytdbjbkdcmhekfaa
open Go.RowKit
set_option linter.unusedVariables false

set_option maxHeartbeats 3200000 in
set_option maxRecDepth 100000 in
theorem lawGlueJoints_ok (A_xs : Option Addr) (c_xs : Nat) (xs : List DPot) (A_g : Option Addr) (c_g : Nat) (g : List Int) (m : Int) (w : World) (h_xs : RowsAt w 5 A_xs (xs.map DPot.cells)) (hk_xs : ∀ x ∈ xs, x.ok) (hn_xs : xs.length ≤ maxLen) (h_g : IntsAt w A_g g) (hn_g : g.length ≤ maxLen)  :
    Calls Try.prog 7 #[.slice A_xs xs.length c_xs, .slice A_g g.length c_g, .int .i64 m] w fun e w' => e = .returned (.bool true) ∧ Below w.heap.size w w' := by
  by_cases b_g : (1048576 : Int) < g.length
  · unfold maxLen at *
    go_enter Try.func7, Try.ntmps7
    go_wp2_with fail
    go_ret
    exact ⟨rfl, Below.refl _ _⟩
  have H_xs := hid h_xs
  have HK_xs := hid hk_xs
  clear h_xs hk_xs
  have H_g := hid h_g
  have hn2_g : g.length ≤ 1048576 := by omega
  clear h_g
  go_enter Try.func7, Try.ntmps7
  go_wp2_with fail
  have B_0 := hid (Below.refl w.heap.size w)
  refine (szPotS_ok A_xs c_xs xs _ _ H_xs.out HK_xs.out hn_xs (by omega) (by omega)).mono ?_
  rintro e w1 ⟨⟨z_xs, rfl, z1_xs, z2_xs, z3_xs⟩, hb⟩
  have Z_xs := hid z3_xs
  clear z3_xs
  have S1 := hid (show w.heap.size ≤ w1.heap.size from hb.size)
  have B_1 := hid (below_trans B_0.out hb)
  clear B_0 hb
  go_wp2_with fail
  · go_ret
    exact ⟨rfl, B_1.out⟩
  have hn2_xs : xs.length ≤ 1048576 := by have := Z_xs.out ‹_›; omega
  clear Z_xs
  refine (toPotS_ok A_xs c_xs xs _ (H_xs.out.up B_1.out (Nat.le_refl _)) hn2_xs).mono ?_
  rintro e w2 ⟨g2, rfl, ho, hb⟩
  have S2 := hid (show w1.heap.size ≤ w2.heap.size from hb.size)
  have B_2 := hid (below_trans B_1.out hb)
  clear B_1 hb
  have O_s_xs := hid ho
  have OE_s_xs := hid (own_lt ho)
  clear ho
  go_wp2_with fail
  refine (toInt64S_ok A_g c_g g _ (H_g.out.up B_2.out (Nat.le_refl _)) hn2_g).mono ?_
  rintro e w3 ⟨_, rfl, ⟨g3, rfl⟩, ho, hb⟩
  have S3 := hid (show w2.heap.size ≤ w3.heap.size from hb.size)
  have B_3 := hid (below_trans B_2.out hb)
  have O_s_xs_3 := hid (own_below O_s_xs.out hb)
  clear B_2 O_s_xs hb
  have O_s_g := hid ho
  have OE_s_g := hid (own_lt ho)
  clear ho
  go_wp2_with fail
  refine (specGlu_ok _ _ xs _ _ g m _ (rows_own O_s_xs_3.out (by simp) (cellsPot_len _)) HK_xs.out hn2_xs (ints_own O_s_g.out) hn2_g ).mono ?_
  rintro e w4 ⟨A4, c4, rfl, ho, hb⟩
  have S4 := hid (show w3.heap.size ≤ w4.heap.size from hb.size)
  have B_4 := hid (below_trans B_3.out hb)
  clear B_3 hb
  have R_spec := hid ho
  have RE_spec := hid (own_lt ho)
  clear ho
  go_wp2_with fail
  refine (toPotS_ok A_xs c_xs xs _ (H_xs.out.up B_4.out (Nat.le_refl _)) hn2_xs).mono ?_
  rintro e w5 ⟨g5, rfl, ho, hb⟩
  have S5 := hid (show w4.heap.size ≤ w5.heap.size from hb.size)
  have B_5 := hid (below_trans B_4.out hb)
  have R_spec_5 := hid (own_below R_spec.out hb)
  clear B_4 R_spec hb
  have O_x_xs := hid ho
  have OE_x_xs := hid (own_lt ho)
  clear ho
  go_wp2_with fail
  refine (toInt64S_ok A_g c_g g _ (H_g.out.up B_5.out (Nat.le_refl _)) hn2_g).mono ?_
  rintro e w6 ⟨_, rfl, ⟨g6, rfl⟩, ho, hb⟩
  have S6 := hid (show w5.heap.size ≤ w6.heap.size from hb.size)
  have B_6 := hid (below_trans B_5.out hb)
  have R_spec_6 := hid (own_below R_spec_5.out hb)
  have O_x_xs_6 := hid (own_below O_x_xs.out hb)
  clear B_5 R_spec_5 O_x_xs hb
  have O_x_g := hid ho
  have OE_x_g := hid (own_lt ho)
  clear ho
  go_wp2_with fail
  refine (implGlu_ok _ _ xs _ _ g m _ (rows_own O_x_xs_6.out (by simp) (cellsPot_len _)) HK_xs.out hn2_xs (ints_own O_x_g.out) hn2_g ).mono ?_
  rintro e w7 ⟨A7, c7, rfl, ho, hb⟩
  have S7 := hid (show w6.heap.size ≤ w7.heap.size from hb.size)
  have B_7 := hid (below_trans B_6.out hb)
  have R_spec_7 := hid (own_below R_spec_6.out hb)
  have O_x_xs_7 := hid (own_below O_x_xs_6.out hb)
  have O_x_g_7 := hid (own_below O_x_g.out hb)
  clear B_6 R_spec_6 O_x_xs_6 O_x_g hb
  have R_impl0 := hid ho
  have RE_impl0 := hid (own_lt ho)
  clear ho
  go_wp2_with fail
  have hrl : (fGlu xs g m).1.length ≤ 1048576 := by have := fGlu_small xs g m; omega
  refine (eqInt64S_same _ _ _ _ (fGlu xs g m).1 _ (ints_own R_impl0.out) (ints_own R_spec_7.out) hrl).mono ?_
  rintro e w8 ⟨rfl, hb⟩
  have S8 := hid (show w7.heap.size ≤ w8.heap.size from hb.size)
  have B_8 := hid (below_trans B_7.out hb)
  have R_spec_8 := hid (own_below R_spec_7.out hb)
  have O_x_xs_8 := hid (own_below O_x_xs_7.out hb)
  have O_x_g_8 := hid (own_below O_x_g_7.out hb)
  have R_impl0_8 := hid (own_below R_impl0.out hb)
  clear B_7 R_spec_7 O_x_xs_7 O_x_g_7 R_impl0 hb
  go_wp2_with fail
  refine (toPotS_ok A_xs c_xs xs _ (H_xs.out.up B_8.out (Nat.le_refl _)) hn2_xs).mono ?_
  rintro e w9 ⟨g9, rfl, ho, hb⟩
  have S9 := hid (show w8.heap.size ≤ w9.heap.size from hb.size)
  have B_9 := hid (below_trans B_8.out hb)
  have R_spec_9 := hid (own_below R_spec_8.out hb)
  have O_x_xs_9 := hid (own_below O_x_xs_8.out hb)
  have O_x_g_9 := hid (own_below O_x_g_8.out hb)
  have R_impl0_9 := hid (own_below R_impl0_8.out hb)
  clear B_8 R_spec_8 O_x_xs_8 O_x_g_8 R_impl0_8 hb
  have O_y_xs := hid ho
  have OE_y_xs := hid (own_lt ho)
  clear ho
  go_wp2_with fail
  refine (eqPotS_same _ _ _ _ xs _ (rows_own O_x_xs_9.out (by simp) (cellsPot_len _)) (rows_own O_y_xs.out (by simp) (cellsPot_len _)) hn2_xs).mono ?_
  rintro e w10 ⟨rfl, hb⟩
  have S10 := hid (show w9.heap.size ≤ w10.heap.size from hb.size)
  have B_10 := hid (below_trans B_9.out hb)
  have R_spec_10 := hid (own_below R_spec_9.out hb)
  have O_x_xs_10 := hid (own_below O_x_xs_9.out hb)
  have O_x_g_10 := hid (own_below O_x_g_9.out hb)
  have R_impl0_10 := hid (own_below R_impl0_9.out hb)
  clear B_9 R_spec_9 O_x_xs_9 O_x_g_9 R_impl0_9 hb
  go_wp2_with fail
  refine (toInt64S_ok A_g c_g g _ (H_g.out.up B_10.out (Nat.le_refl _)) hn2_g).mono ?_
  rintro e w11 ⟨_, rfl, ⟨g11, rfl⟩, ho, hb⟩
  have S11 := hid (show w10.heap.size ≤ w11.heap.size from hb.size)
  have B_11 := hid (below_trans B_10.out hb)
  have R_spec_11 := hid (own_below R_spec_10.out hb)
  have O_x_xs_11 := hid (own_below O_x_xs_10.out hb)
  have O_x_g_11 := hid (own_below O_x_g_10.out hb)
  have R_impl0_11 := hid (own_below R_impl0_10.out hb)
  clear B_10 R_spec_10 O_x_xs_10 O_x_g_10 R_impl0_10 hb
  have O_y_g := hid ho
  have OE_y_g := hid (own_lt ho)
  clear ho
  go_wp2_with fail
  refine (eqInt64S_same _ _ _ _ g _ (ints_own O_x_g_11.out) (ints_own O_y_g.out) hn2_g).mono ?_
  rintro e w12 ⟨rfl, hb⟩
  have S12 := hid (show w11.heap.size ≤ w12.heap.size from hb.size)
  have B_12 := hid (below_trans B_11.out hb)
  have R_spec_12 := hid (own_below R_spec_11.out hb)
  have O_x_xs_12 := hid (own_below O_x_xs_11.out hb)
  have O_x_g_12 := hid (own_below O_x_g_11.out hb)
  have R_impl0_12 := hid (own_below R_impl0_11.out hb)
  clear B_11 R_spec_11 O_x_xs_11 O_x_g_11 R_impl0_11 hb
  go_wp2_with fail
  refine (markPotS_ok _ _ _ _ w5.heap.size _ _ _ O_x_xs_12.out OE_x_xs.out (by omega) (by omega) (by omega)).mono ?_
  rintro e w13 ⟨⟨k13, rfl, kp13, kq13⟩, hq⟩
  have S13 := hid (show w12.heap.size ≤ w13.heap.size from hq.size)
  have B_13 := hid (B_12.out.trans ((hq.below (by have := S1.out; have := S2.out; have := S3.out; have := S4.out; have := S5.out; have := S6.out; have := S7.out; have := S8.out; have := S9.out; have := S10.out; have := S11.out; have := S12.out; have := S13.out; omega)).mono (by have := S1.out; have := S2.out; have := S3.out; have := S4.out; have := S5.out; have := S6.out; have := S7.out; have := S8.out; have := S9.out; have := S10.out; have := S11.out; have := S12.out; have := S13.out; omega)))
  have R_spec_13 := hid (own_low R_spec_12.out RE_spec.out hq (by have := S1.out; have := S2.out; have := S3.out; have := S4.out; have := S5.out; have := S6.out; have := S7.out; have := S8.out; have := S9.out; have := S10.out; have := S11.out; have := S12.out; have := S13.out; omega))
  have O_x_g_13 := hid (own_chg O_x_g_12.out hq (by have := S1.out; have := S2.out; have := S3.out; have := S4.out; have := S5.out; have := S6.out; have := S7.out; have := S8.out; have := S9.out; have := S10.out; have := S11.out; have := S12.out; have := S13.out; omega))
  have R_impl0_13 := hid (own_chg R_impl0_12.out hq (by have := S1.out; have := S2.out; have := S3.out; have := S4.out; have := S5.out; have := S6.out; have := S7.out; have := S8.out; have := S9.out; have := S10.out; have := S11.out; have := S12.out; have := S13.out; omega))
  clear B_12 R_spec_12 O_x_g_12 R_impl0_12 hq
  go_wp2_with fail
  refine (markInt64R_ok _ _ _ w6.heap.size _ _ _ _ O_x_g_13.out OE_x_g.out (by omega) (by omega) (by omega)).mono ?_
  rintro e w14 ⟨⟨k14, rfl, kp14, kq14⟩, hq⟩
  have S14 := hid (show w13.heap.size ≤ w14.heap.size from hq.size)
  have B_14 := hid (B_13.out.trans ((hq.below (by have := S1.out; have := S2.out; have := S3.out; have := S4.out; have := S5.out; have := S6.out; have := S7.out; have := S8.out; have := S9.out; have := S10.out; have := S11.out; have := S12.out; have := S13.out; have := S14.out; omega)).mono (by have := S1.out; have := S2.out; have := S3.out; have := S4.out; have := S5.out; have := S6.out; have := S7.out; have := S8.out; have := S9.out; have := S10.out; have := S11.out; have := S12.out; have := S13.out; have := S14.out; omega)))
  have R_spec_14 := hid (own_low R_spec_13.out RE_spec.out hq (by have := S1.out; have := S2.out; have := S3.out; have := S4.out; have := S5.out; have := S6.out; have := S7.out; have := S8.out; have := S9.out; have := S10.out; have := S11.out; have := S12.out; have := S13.out; have := S14.out; omega))
  have R_impl0_14 := hid (own_chg R_impl0_13.out hq (by have := S1.out; have := S2.out; have := S3.out; have := S4.out; have := S5.out; have := S6.out; have := S7.out; have := S8.out; have := S9.out; have := S10.out; have := S11.out; have := S12.out; have := S13.out; have := S14.out; omega))
  clear B_13 R_spec_13 R_impl0_13 hq
  go_wp2_with fail
  refine (eqInt64S_same _ _ _ _ (fGlu xs g m).1 _ (ints_own R_impl0_14.out) (ints_own R_spec_14.out) hrl).mono ?_
  rintro e w15 ⟨rfl, hb⟩
  have S15 := hid (show w14.heap.size ≤ w15.heap.size from hb.size)
  have B_15 := hid (below_trans B_14.out hb)
  have R_spec_15 := hid (own_below R_spec_14.out hb)
  have R_impl0_15 := hid (own_below R_impl0_14.out hb)
  clear B_14 R_spec_14 R_impl0_14 hb
  go_wp2_with fail
  refine (markInt64S_ok _ _ _ w7.heap.size (fGlu xs g m).1 _ _ R_impl0_15.out RE_impl0.out (by omega) (by omega) (by omega)).mono ?_
  rintro e w16 ⟨rfl, ho, hq⟩
  have S16 := hid (show w15.heap.size ≤ w16.heap.size from hq.size)
  have B_16 := hid (B_15.out.trans ((hq.below (by have := S1.out; have := S2.out; have := S3.out; have := S4.out; have := S5.out; have := S6.out; have := S7.out; have := S8.out; have := S9.out; have := S10.out; have := S11.out; have := S12.out; have := S13.out; have := S14.out; have := S15.out; have := S16.out; omega)).mono (by have := S1.out; have := S2.out; have := S3.out; have := S4.out; have := S5.out; have := S6.out; have := S7.out; have := S8.out; have := S9.out; have := S10.out; have := S11.out; have := S12.out; have := S13.out; have := S14.out; have := S15.out; have := S16.out; omega)))
  have R_spec_16 := hid (own_low R_spec_15.out RE_spec.out hq (by have := S1.out; have := S2.out; have := S3.out; have := S4.out; have := S5.out; have := S6.out; have := S7.out; have := S8.out; have := S9.out; have := S10.out; have := S11.out; have := S12.out; have := S13.out; have := S14.out; have := S15.out; have := S16.out; omega))
  clear B_15 R_spec_15 hq
  have M0 := hid ho
  clear ho
  go_wp2_with fail
  refine (heldInt64S_ok _ _ (fGlu xs g m).1.length _ _ (ints_own M0.out) (by omega) (by omega) (by omega)).mono ?_
  rintro e w' ⟨rfl, rfl⟩
  go_wp2_with fail
  refine (toPotS_ok A_xs c_xs xs _ (H_xs.out.up B_16.out (Nat.le_refl _)) hn2_xs).mono ?_
  rintro e w17 ⟨g17, rfl, ho, hb⟩
  have S17 := hid (show w16.heap.size ≤ w17.heap.size from hb.size)
  have B_17 := hid (below_trans B_16.out hb)
  have R_spec_17 := hid (own_below R_spec_16.out hb)
  have M_17 := hid (own_below M0.out hb)
  clear B_16 R_spec_16 M0 hb
  have O_z_xs := hid ho
  have OE_z_xs := hid (own_lt ho)
  clear ho
  go_wp2_with fail
  refine (toInt64S_ok A_g c_g g _ (H_g.out.up B_17.out (Nat.le_refl _)) hn2_g).mono ?_
  rintro e w18 ⟨_, rfl, ⟨g18, rfl⟩, ho, hb⟩
  have S18 := hid (show w17.heap.size ≤ w18.heap.size from hb.size)
  have B_18 := hid (below_trans B_17.out hb)
  have R_spec_18 := hid (own_below R_spec_17.out hb)
  have M_18 := hid (own_below M_17.out hb)
  have O_z_xs_18 := hid (own_below O_z_xs.out hb)
  clear B_17 R_spec_17 M_17 O_z_xs hb
  have O_z_g := hid ho
  have OE_z_g := hid (own_lt ho)
  clear ho
  go_wp2_with fail
  refine (implGlu_ok _ _ xs _ _ g m _ (rows_own O_z_xs_18.out (by simp) (cellsPot_len _)) HK_xs.out hn2_xs (ints_own O_z_g.out) hn2_g ).mono ?_
  rintro e w19 ⟨A19, c19, rfl, ho, hb⟩
  have S19 := hid (show w18.heap.size ≤ w19.heap.size from hb.size)
  have B_19 := hid (below_trans B_18.out hb)
  have R_spec_19 := hid (own_below R_spec_18.out hb)
  have M_19 := hid (own_below M_18.out hb)
  clear B_18 R_spec_18 M_18 hb
  have R_impl1 := hid ho
  have RE_impl1 := hid (own_lt ho)
  clear ho
  go_wp2_with fail
  refine (eqInt64S_same _ _ _ _ (fGlu xs g m).1 _ (ints_own R_impl1.out) (ints_own R_spec_19.out) hrl).mono ?_
  rintro e w20 ⟨rfl, hb⟩
  have S20 := hid (show w19.heap.size ≤ w20.heap.size from hb.size)
  have B_20 := hid (below_trans B_19.out hb)
  have R_spec_20 := hid (own_below R_spec_19.out hb)
  have M_20 := hid (own_below M_19.out hb)
  have R_impl1_20 := hid (own_below R_impl1.out hb)
  clear B_19 R_spec_19 M_19 R_impl1 hb
  go_wp2_with fail
  refine (heldInt64S_ok _ _ (fGlu xs g m).1.length _ _ (ints_own M_20.out) (by omega) (by omega) (by omega)).mono ?_
  rintro e w' ⟨rfl, rfl⟩
  go_wp2_with fail
  go_ret
  exact ⟨rfl, B_20.out⟩

end Go.Proofs.Ytdbjbkdcmhekfaa
