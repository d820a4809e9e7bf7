/- The law FnExactBestCoats. -/
import Derived.Test.YtdbjbkdcmhekfaaCoaF
import Derived.Test.YtdbjbkdcmhekfaaInts
namespace Go.Proofs.Ytdbjbkdcmhekfaa
open Go.RowKit
set_option linter.unusedVariables false

set_option maxHeartbeats 3200000 in
set_option maxRecDepth 100000 in
theorem lawBestCoats_ok (A_xs : Option Addr) (c_xs : Nat) (xs : List DCoat) (A_g : Option Addr) (c_g : Nat) (g : List Int) (A_q : Option Addr) (c_q : Nat) (q : List Int) (m : Int) (n : Int) (w : World) (h_xs : NestAt 1 hdCoat inCoat w A_xs xs) (hk_xs : ∀ x ∈ xs, x.ok) (hn_xs : xs.length ≤ maxLen) (h_g : IntsAt w A_g g) (hn_g : g.length ≤ maxLen) (h_q : IntsAt w A_q q) (hn_q : q.length ≤ maxLen)  :
    Calls Try.prog 6 #[.slice A_xs xs.length c_xs, .slice A_g g.length c_g, .slice A_q q.length c_q, .int .i64 m, .int .i64 n] w fun e w' => e = .returned (.bool true) ∧ Below w.heap.size w w' := by
  by_cases b_g : (1048576 : Int) < g.length
  · unfold maxLen at *
    go_enter Try.func6, Try.ntmps6
    go_wp2_with fail
    go_ret
    exact ⟨rfl, Below.refl _ _⟩
  by_cases b_q : (1048576 : Int) < q.length
  · unfold maxLen at *
    go_enter Try.func6, Try.ntmps6
    go_wp2_with fail
    go_ret
    exact ⟨rfl, Below.refl _ _⟩
  have H_xs := hid h_xs
  have HK_xs := hid hk_xs
  clear h_xs hk_xs
  have H_g := hid h_g
  have hn2_g : g.length ≤ 1048576 := by omega
  clear h_g
  have H_q := hid h_q
  have hn2_q : q.length ≤ 1048576 := by omega
  clear h_q
  go_enter Try.func6, Try.ntmps6
  go_wp2_with fail
  have B_0 := hid (Below.refl w.heap.size w)
  refine (szCoatS_ok A_xs c_xs xs _ _ H_xs.out HK_xs.out hn_xs (by omega) (by omega)).mono ?_
  rintro e w1 ⟨⟨z_xs, rfl, z1_xs, z2_xs, z3_xs⟩, hb⟩
  have Z_xs := hid z3_xs
  clear z3_xs
  have S1 := hid (show w.heap.size ≤ w1.heap.size from hb.size)
  have B_1 := hid (below_trans B_0.out hb)
  clear B_0 hb
  go_wp2_with fail
  · go_ret
    exact ⟨rfl, B_1.out⟩
  obtain ⟨hz_xs, hi_xs⟩ := Z_xs.out ‹_›
  have hn2_xs : xs.length ≤ 1048576 := by omega
  have HI_xs := hid hi_xs
  clear Z_xs hi_xs
  refine (toCoatS_ok A_xs c_xs xs _ (H_xs.out.up B_1.out (Nat.le_refl _)) hn2_xs HI_xs.out).mono ?_
  rintro e w2 ⟨g2, rfl, ho, hb⟩
  have S2 := hid (show w1.heap.size ≤ w2.heap.size from hb.size)
  have B_2 := hid (below_trans B_1.out hb)
  clear B_1 hb
  have O_s_xs := hid ho
  clear ho
  go_wp2_with fail
  refine (toInt64S_ok A_g c_g g _ (H_g.out.up B_2.out (Nat.le_refl _)) hn2_g).mono ?_
  rintro e w3 ⟨_, rfl, ⟨g3, rfl⟩, ho, hb⟩
  have S3 := hid (show w2.heap.size ≤ w3.heap.size from hb.size)
  have B_3 := hid (below_trans B_2.out hb)
  have O_s_xs_3 := hid (O_s_xs.out.below hb)
  clear B_2 O_s_xs hb
  have O_s_g := hid ho
  have OE_s_g := hid (own_lt ho)
  clear ho
  go_wp2_with fail
  refine (toInt64S_ok A_q c_q q _ (H_q.out.up B_3.out (Nat.le_refl _)) hn2_q).mono ?_
  rintro e w4 ⟨_, rfl, ⟨g4, rfl⟩, ho, hb⟩
  have S4 := hid (show w3.heap.size ≤ w4.heap.size from hb.size)
  have B_4 := hid (below_trans B_3.out hb)
  have O_s_xs_4 := hid (O_s_xs_3.out.below hb)
  have O_s_g_4 := hid (own_below O_s_g.out hb)
  clear B_3 O_s_xs_3 O_s_g hb
  have O_s_q := hid ho
  have OE_s_q := hid (own_lt ho)
  clear ho
  go_wp2_with fail
  refine (specCoa_ok _ _ xs _ _ g _ _ q m n _ (O_s_xs_4.out.at hdCoat_length inCoat_len) HK_xs.out hn2_xs HI_xs.out (ints_own O_s_g_4.out) hn2_g (ints_own O_s_q.out) hn2_q ).mono ?_
  rintro e w5 ⟨A5, c5, rfl, ho, hb⟩
  have S5 := hid (show w4.heap.size ≤ w5.heap.size from hb.size)
  have B_5 := hid (below_trans B_4.out hb)
  clear B_4 hb
  have R_spec := hid ho
  have RE_spec := hid (own_lt ho)
  clear ho
  go_wp2_with fail
  refine (toCoatS_ok A_xs c_xs xs _ (H_xs.out.up B_5.out (Nat.le_refl _)) hn2_xs HI_xs.out).mono ?_
  rintro e w6 ⟨g6, rfl, ho, hb⟩
  have S6 := hid (show w5.heap.size ≤ w6.heap.size from hb.size)
  have B_6 := hid (below_trans B_5.out hb)
  have R_spec_6 := hid (own_below R_spec.out hb)
  clear B_5 R_spec hb
  have O_x_xs := hid ho
  clear ho
  go_wp2_with fail
  refine (toInt64S_ok A_g c_g g _ (H_g.out.up B_6.out (Nat.le_refl _)) hn2_g).mono ?_
  rintro e w7 ⟨_, rfl, ⟨g7, rfl⟩, ho, hb⟩
  have S7 := hid (show w6.heap.size ≤ w7.heap.size from hb.size)
  have B_7 := hid (below_trans B_6.out hb)
  have R_spec_7 := hid (own_below R_spec_6.out hb)
  have O_x_xs_7 := hid (O_x_xs.out.below hb)
  clear B_6 R_spec_6 O_x_xs hb
  have O_x_g := hid ho
  have OE_x_g := hid (own_lt ho)
  clear ho
  go_wp2_with fail
  refine (toInt64S_ok A_q c_q q _ (H_q.out.up B_7.out (Nat.le_refl _)) hn2_q).mono ?_
  rintro e w8 ⟨_, rfl, ⟨g8, rfl⟩, ho, hb⟩
  have S8 := hid (show w7.heap.size ≤ w8.heap.size from hb.size)
  have B_8 := hid (below_trans B_7.out hb)
  have R_spec_8 := hid (own_below R_spec_7.out hb)
  have O_x_xs_8 := hid (O_x_xs_7.out.below hb)
  have O_x_g_8 := hid (own_below O_x_g.out hb)
  clear B_7 R_spec_7 O_x_xs_7 O_x_g hb
  have O_x_q := hid ho
  have OE_x_q := hid (own_lt ho)
  clear ho
  go_wp2_with fail
  refine (implCoa_ok _ _ xs _ _ g _ _ q m n _ (O_x_xs_8.out.at hdCoat_length inCoat_len) HK_xs.out hn2_xs HI_xs.out (ints_own O_x_g_8.out) hn2_g (ints_own O_x_q.out) hn2_q ).mono ?_
  rintro e w9 ⟨A9, c9, rfl, ho, hb⟩
  have S9 := hid (show w8.heap.size ≤ w9.heap.size from hb.size)
  have B_9 := hid (below_trans B_8.out hb)
  have R_spec_9 := hid (own_below R_spec_8.out hb)
  have O_x_xs_9 := hid (O_x_xs_8.out.below hb)
  have O_x_g_9 := hid (own_below O_x_g_8.out hb)
  have O_x_q_9 := hid (own_below O_x_q.out hb)
  clear B_8 R_spec_8 O_x_xs_8 O_x_g_8 O_x_q hb
  have R_impl0 := hid ho
  have RE_impl0 := hid (own_lt ho)
  clear ho
  go_wp2_with fail
  have hrl : (fCoa xs g q m n).1.length ≤ 1048576 := by have := fCoa_small xs g q m n; omega
  refine (eqInt64S_same _ _ _ _ (fCoa xs g q m n).1 _ (ints_own R_impl0.out) (ints_own R_spec_9.out) hrl).mono ?_
  rintro e w10 ⟨rfl, hb⟩
  have S10 := hid (show w9.heap.size ≤ w10.heap.size from hb.size)
  have B_10 := hid (below_trans B_9.out hb)
  have R_spec_10 := hid (own_below R_spec_9.out hb)
  have O_x_xs_10 := hid (O_x_xs_9.out.below hb)
  have O_x_g_10 := hid (own_below O_x_g_9.out hb)
  have O_x_q_10 := hid (own_below O_x_q_9.out hb)
  have R_impl0_10 := hid (own_below R_impl0.out hb)
  clear B_9 R_spec_9 O_x_xs_9 O_x_g_9 O_x_q_9 R_impl0 hb
  go_wp2_with fail
  refine (toCoatS_ok A_xs c_xs xs _ (H_xs.out.up B_10.out (Nat.le_refl _)) hn2_xs HI_xs.out).mono ?_
  rintro e w11 ⟨g11, rfl, ho, hb⟩
  have S11 := hid (show w10.heap.size ≤ w11.heap.size from hb.size)
  have B_11 := hid (below_trans B_10.out hb)
  have R_spec_11 := hid (own_below R_spec_10.out hb)
  have O_x_xs_11 := hid (O_x_xs_10.out.below hb)
  have O_x_g_11 := hid (own_below O_x_g_10.out hb)
  have O_x_q_11 := hid (own_below O_x_q_10.out hb)
  have R_impl0_11 := hid (own_below R_impl0_10.out hb)
  clear B_10 R_spec_10 O_x_xs_10 O_x_g_10 O_x_q_10 R_impl0_10 hb
  have O_y_xs := hid ho
  clear ho
  go_wp2_with fail
  refine (eqCoatS_same _ _ _ _ xs _ (O_x_xs_11.out.at hdCoat_length inCoat_len) (O_y_xs.out.at hdCoat_length inCoat_len) hn2_xs HI_xs.out).mono ?_
  rintro e w12 ⟨rfl, hb⟩
  have S12 := hid (show w11.heap.size ≤ w12.heap.size from hb.size)
  have B_12 := hid (below_trans B_11.out hb)
  have R_spec_12 := hid (own_below R_spec_11.out hb)
  have O_x_xs_12 := hid (O_x_xs_11.out.below hb)
  have O_x_g_12 := hid (own_below O_x_g_11.out hb)
  have O_x_q_12 := hid (own_below O_x_q_11.out hb)
  have R_impl0_12 := hid (own_below R_impl0_11.out hb)
  clear B_11 R_spec_11 O_x_xs_11 O_x_g_11 O_x_q_11 R_impl0_11 hb
  go_wp2_with fail
  refine (toInt64S_ok A_g c_g g _ (H_g.out.up B_12.out (Nat.le_refl _)) hn2_g).mono ?_
  rintro e w13 ⟨_, rfl, ⟨g13, rfl⟩, ho, hb⟩
  have S13 := hid (show w12.heap.size ≤ w13.heap.size from hb.size)
  have B_13 := hid (below_trans B_12.out hb)
  have R_spec_13 := hid (own_below R_spec_12.out hb)
  have O_x_xs_13 := hid (O_x_xs_12.out.below hb)
  have O_x_g_13 := hid (own_below O_x_g_12.out hb)
  have O_x_q_13 := hid (own_below O_x_q_12.out hb)
  have R_impl0_13 := hid (own_below R_impl0_12.out hb)
  clear B_12 R_spec_12 O_x_xs_12 O_x_g_12 O_x_q_12 R_impl0_12 hb
  have O_y_g := hid ho
  have OE_y_g := hid (own_lt ho)
  clear ho
  go_wp2_with fail
  refine (eqInt64S_same _ _ _ _ g _ (ints_own O_x_g_13.out) (ints_own O_y_g.out) hn2_g).mono ?_
  rintro e w14 ⟨rfl, hb⟩
  have S14 := hid (show w13.heap.size ≤ w14.heap.size from hb.size)
  have B_14 := hid (below_trans B_13.out hb)
  have R_spec_14 := hid (own_below R_spec_13.out hb)
  have O_x_xs_14 := hid (O_x_xs_13.out.below hb)
  have O_x_g_14 := hid (own_below O_x_g_13.out hb)
  have O_x_q_14 := hid (own_below O_x_q_13.out hb)
  have R_impl0_14 := hid (own_below R_impl0_13.out hb)
  clear B_13 R_spec_13 O_x_xs_13 O_x_g_13 O_x_q_13 R_impl0_13 hb
  go_wp2_with fail
  refine (toInt64S_ok A_q c_q q _ (H_q.out.up B_14.out (Nat.le_refl _)) hn2_q).mono ?_
  rintro e w15 ⟨_, rfl, ⟨g15, rfl⟩, ho, hb⟩
  have S15 := hid (show w14.heap.size ≤ w15.heap.size from hb.size)
  have B_15 := hid (below_trans B_14.out hb)
  have R_spec_15 := hid (own_below R_spec_14.out hb)
  have O_x_xs_15 := hid (O_x_xs_14.out.below hb)
  have O_x_g_15 := hid (own_below O_x_g_14.out hb)
  have O_x_q_15 := hid (own_below O_x_q_14.out hb)
  have R_impl0_15 := hid (own_below R_impl0_14.out hb)
  clear B_14 R_spec_14 O_x_xs_14 O_x_g_14 O_x_q_14 R_impl0_14 hb
  have O_y_q := hid ho
  have OE_y_q := hid (own_lt ho)
  clear ho
  go_wp2_with fail
  refine (eqInt64S_same _ _ _ _ q _ (ints_own O_x_q_15.out) (ints_own O_y_q.out) hn2_q).mono ?_
  rintro e w16 ⟨rfl, hb⟩
  have S16 := hid (show w15.heap.size ≤ w16.heap.size from hb.size)
  have B_16 := hid (below_trans B_15.out hb)
  have R_spec_16 := hid (own_below R_spec_15.out hb)
  have O_x_xs_16 := hid (O_x_xs_15.out.below hb)
  have O_x_g_16 := hid (own_below O_x_g_15.out hb)
  have O_x_q_16 := hid (own_below O_x_q_15.out hb)
  have R_impl0_16 := hid (own_below R_impl0_15.out hb)
  clear B_15 R_spec_15 O_x_xs_15 O_x_g_15 O_x_q_15 R_impl0_15 hb
  go_wp2_with fail
  refine (markCoatS_ok _ _ _ xs _ _ O_x_xs_16.out (by omega) (by omega) hn2_xs HI_xs.out).mono ?_
  rintro e w17 ⟨⟨k17, rfl, kp17, kq17⟩, hq⟩
  have S17 := hid (show w16.heap.size ≤ w17.heap.size from hq.size)
  have B_17 := hid (B_16.out.trans ((hq.below (by have := S1.out; have := S2.out; have := S3.out; have := S4.out; have := S5.out; have := S6.out; have := S7.out; have := S8.out; have := S9.out; have := S10.out; have := S11.out; have := S12.out; have := S13.out; have := S14.out; have := S15.out; have := S16.out; have := S17.out; omega)).mono (by have := S1.out; have := S2.out; have := S3.out; have := S4.out; have := S5.out; have := S6.out; have := S7.out; have := S8.out; have := S9.out; have := S10.out; have := S11.out; have := S12.out; have := S13.out; have := S14.out; have := S15.out; have := S16.out; have := S17.out; omega)))
  have R_spec_17 := hid (own_low R_spec_16.out RE_spec.out hq (by have := S1.out; have := S2.out; have := S3.out; have := S4.out; have := S5.out; have := S6.out; have := S7.out; have := S8.out; have := S9.out; have := S10.out; have := S11.out; have := S12.out; have := S13.out; have := S14.out; have := S15.out; have := S16.out; have := S17.out; omega))
  have O_x_g_17 := hid (own_chg O_x_g_16.out hq (by have := S1.out; have := S2.out; have := S3.out; have := S4.out; have := S5.out; have := S6.out; have := S7.out; have := S8.out; have := S9.out; have := S10.out; have := S11.out; have := S12.out; have := S13.out; have := S14.out; have := S15.out; have := S16.out; have := S17.out; omega))
  have O_x_q_17 := hid (own_chg O_x_q_16.out hq (by have := S1.out; have := S2.out; have := S3.out; have := S4.out; have := S5.out; have := S6.out; have := S7.out; have := S8.out; have := S9.out; have := S10.out; have := S11.out; have := S12.out; have := S13.out; have := S14.out; have := S15.out; have := S16.out; have := S17.out; omega))
  have R_impl0_17 := hid (own_chg R_impl0_16.out hq (by have := S1.out; have := S2.out; have := S3.out; have := S4.out; have := S5.out; have := S6.out; have := S7.out; have := S8.out; have := S9.out; have := S10.out; have := S11.out; have := S12.out; have := S13.out; have := S14.out; have := S15.out; have := S16.out; have := S17.out; omega))
  clear B_16 R_spec_16 O_x_g_16 O_x_q_16 R_impl0_16 hq
  go_wp2_with fail
  refine (markInt64R_ok _ _ _ w7.heap.size _ _ _ _ O_x_g_17.out OE_x_g.out (by omega) (by omega) (by omega)).mono ?_
  rintro e w18 ⟨⟨k18, rfl, kp18, kq18⟩, hq⟩
  have S18 := hid (show w17.heap.size ≤ w18.heap.size from hq.size)
  have B_18 := hid (B_17.out.trans ((hq.below (by have := S1.out; have := S2.out; have := S3.out; have := S4.out; have := S5.out; have := S6.out; have := S7.out; have := S8.out; have := S9.out; have := S10.out; have := S11.out; have := S12.out; have := S13.out; have := S14.out; have := S15.out; have := S16.out; have := S17.out; have := S18.out; omega)).mono (by have := S1.out; have := S2.out; have := S3.out; have := S4.out; have := S5.out; have := S6.out; have := S7.out; have := S8.out; have := S9.out; have := S10.out; have := S11.out; have := S12.out; have := S13.out; have := S14.out; have := S15.out; have := S16.out; have := S17.out; have := S18.out; omega)))
  have R_spec_18 := hid (own_low R_spec_17.out RE_spec.out hq (by have := S1.out; have := S2.out; have := S3.out; have := S4.out; have := S5.out; have := S6.out; have := S7.out; have := S8.out; have := S9.out; have := S10.out; have := S11.out; have := S12.out; have := S13.out; have := S14.out; have := S15.out; have := S16.out; have := S17.out; have := S18.out; omega))
  have O_x_q_18 := hid (own_chg O_x_q_17.out hq (by have := S1.out; have := S2.out; have := S3.out; have := S4.out; have := S5.out; have := S6.out; have := S7.out; have := S8.out; have := S9.out; have := S10.out; have := S11.out; have := S12.out; have := S13.out; have := S14.out; have := S15.out; have := S16.out; have := S17.out; have := S18.out; omega))
  have R_impl0_18 := hid (own_chg R_impl0_17.out hq (by have := S1.out; have := S2.out; have := S3.out; have := S4.out; have := S5.out; have := S6.out; have := S7.out; have := S8.out; have := S9.out; have := S10.out; have := S11.out; have := S12.out; have := S13.out; have := S14.out; have := S15.out; have := S16.out; have := S17.out; have := S18.out; omega))
  clear B_17 R_spec_17 O_x_q_17 R_impl0_17 hq
  go_wp2_with fail
  refine (markInt64R_ok _ _ _ w8.heap.size _ _ _ _ O_x_q_18.out OE_x_q.out (by omega) (by omega) (by omega)).mono ?_
  rintro e w19 ⟨⟨k19, rfl, kp19, kq19⟩, hq⟩
  have S19 := hid (show w18.heap.size ≤ w19.heap.size from hq.size)
  have B_19 := hid (B_18.out.trans ((hq.below (by have := S1.out; have := S2.out; have := S3.out; have := S4.out; have := S5.out; have := S6.out; have := S7.out; have := S8.out; have := S9.out; have := S10.out; have := S11.out; have := S12.out; have := S13.out; have := S14.out; have := S15.out; have := S16.out; have := S17.out; have := S18.out; have := S19.out; omega)).mono (by have := S1.out; have := S2.out; have := S3.out; have := S4.out; have := S5.out; have := S6.out; have := S7.out; have := S8.out; have := S9.out; have := S10.out; have := S11.out; have := S12.out; have := S13.out; have := S14.out; have := S15.out; have := S16.out; have := S17.out; have := S18.out; have := S19.out; omega)))
  have R_spec_19 := hid (own_low R_spec_18.out RE_spec.out hq (by have := S1.out; have := S2.out; have := S3.out; have := S4.out; have := S5.out; have := S6.out; have := S7.out; have := S8.out; have := S9.out; have := S10.out; have := S11.out; have := S12.out; have := S13.out; have := S14.out; have := S15.out; have := S16.out; have := S17.out; have := S18.out; have := S19.out; omega))
  have R_impl0_19 := hid (own_chg R_impl0_18.out hq (by have := S1.out; have := S2.out; have := S3.out; have := S4.out; have := S5.out; have := S6.out; have := S7.out; have := S8.out; have := S9.out; have := S10.out; have := S11.out; have := S12.out; have := S13.out; have := S14.out; have := S15.out; have := S16.out; have := S17.out; have := S18.out; have := S19.out; omega))
  clear B_18 R_spec_18 R_impl0_18 hq
  go_wp2_with fail
  refine (eqInt64S_same _ _ _ _ (fCoa xs g q m n).1 _ (ints_own R_impl0_19.out) (ints_own R_spec_19.out) hrl).mono ?_
  rintro e w20 ⟨rfl, hb⟩
  have S20 := hid (show w19.heap.size ≤ w20.heap.size from hb.size)
  have B_20 := hid (below_trans B_19.out hb)
  have R_spec_20 := hid (own_below R_spec_19.out hb)
  have R_impl0_20 := hid (own_below R_impl0_19.out hb)
  clear B_19 R_spec_19 R_impl0_19 hb
  go_wp2_with fail
  refine (markInt64S_ok _ _ _ w9.heap.size (fCoa xs g q m n).1 _ _ R_impl0_20.out RE_impl0.out (by omega) (by omega) (by omega)).mono ?_
  rintro e w21 ⟨rfl, ho, hq⟩
  have S21 := hid (show w20.heap.size ≤ w21.heap.size from hq.size)
  have B_21 := hid (B_20.out.trans ((hq.below (by have := S1.out; have := S2.out; have := S3.out; have := S4.out; have := S5.out; have := S6.out; have := S7.out; have := S8.out; have := S9.out; have := S10.out; have := S11.out; have := S12.out; have := S13.out; have := S14.out; have := S15.out; have := S16.out; have := S17.out; have := S18.out; have := S19.out; have := S20.out; have := S21.out; omega)).mono (by have := S1.out; have := S2.out; have := S3.out; have := S4.out; have := S5.out; have := S6.out; have := S7.out; have := S8.out; have := S9.out; have := S10.out; have := S11.out; have := S12.out; have := S13.out; have := S14.out; have := S15.out; have := S16.out; have := S17.out; have := S18.out; have := S19.out; have := S20.out; have := S21.out; omega)))
  have R_spec_21 := hid (own_low R_spec_20.out RE_spec.out hq (by have := S1.out; have := S2.out; have := S3.out; have := S4.out; have := S5.out; have := S6.out; have := S7.out; have := S8.out; have := S9.out; have := S10.out; have := S11.out; have := S12.out; have := S13.out; have := S14.out; have := S15.out; have := S16.out; have := S17.out; have := S18.out; have := S19.out; have := S20.out; have := S21.out; omega))
  clear B_20 R_spec_20 hq
  have M0 := hid ho
  clear ho
  go_wp2_with fail
  refine (heldInt64S_ok _ _ (fCoa xs g q m n).1.length _ _ (ints_own M0.out) (by omega) (by omega) (by omega)).mono ?_
  rintro e w' ⟨rfl, rfl⟩
  go_wp2_with fail
  refine (toCoatS_ok A_xs c_xs xs _ (H_xs.out.up B_21.out (Nat.le_refl _)) hn2_xs HI_xs.out).mono ?_
  rintro e w22 ⟨g22, rfl, ho, hb⟩
  have S22 := hid (show w21.heap.size ≤ w22.heap.size from hb.size)
  have B_22 := hid (below_trans B_21.out hb)
  have R_spec_22 := hid (own_below R_spec_21.out hb)
  have M_22 := hid (own_below M0.out hb)
  clear B_21 R_spec_21 M0 hb
  have O_z_xs := hid ho
  clear ho
  go_wp2_with fail
  refine (toInt64S_ok A_g c_g g _ (H_g.out.up B_22.out (Nat.le_refl _)) hn2_g).mono ?_
  rintro e w23 ⟨_, rfl, ⟨g23, rfl⟩, ho, hb⟩
  have S23 := hid (show w22.heap.size ≤ w23.heap.size from hb.size)
  have B_23 := hid (below_trans B_22.out hb)
  have R_spec_23 := hid (own_below R_spec_22.out hb)
  have M_23 := hid (own_below M_22.out hb)
  have O_z_xs_23 := hid (O_z_xs.out.below hb)
  clear B_22 R_spec_22 M_22 O_z_xs hb
  have O_z_g := hid ho
  have OE_z_g := hid (own_lt ho)
  clear ho
  go_wp2_with fail
  refine (toInt64S_ok A_q c_q q _ (H_q.out.up B_23.out (Nat.le_refl _)) hn2_q).mono ?_
  rintro e w24 ⟨_, rfl, ⟨g24, rfl⟩, ho, hb⟩
  have S24 := hid (show w23.heap.size ≤ w24.heap.size from hb.size)
  have B_24 := hid (below_trans B_23.out hb)
  have R_spec_24 := hid (own_below R_spec_23.out hb)
  have M_24 := hid (own_below M_23.out hb)
  have O_z_xs_24 := hid (O_z_xs_23.out.below hb)
  have O_z_g_24 := hid (own_below O_z_g.out hb)
  clear B_23 R_spec_23 M_23 O_z_xs_23 O_z_g hb
  have O_z_q := hid ho
  have OE_z_q := hid (own_lt ho)
  clear ho
  go_wp2_with fail
  refine (implCoa_ok _ _ xs _ _ g _ _ q m n _ (O_z_xs_24.out.at hdCoat_length inCoat_len) HK_xs.out hn2_xs HI_xs.out (ints_own O_z_g_24.out) hn2_g (ints_own O_z_q.out) hn2_q ).mono ?_
  rintro e w25 ⟨A25, c25, rfl, ho, hb⟩
  have S25 := hid (show w24.heap.size ≤ w25.heap.size from hb.size)
  have B_25 := hid (below_trans B_24.out hb)
  have R_spec_25 := hid (own_below R_spec_24.out hb)
  have M_25 := hid (own_below M_24.out hb)
  clear B_24 R_spec_24 M_24 hb
  have R_impl1 := hid ho
  have RE_impl1 := hid (own_lt ho)
  clear ho
  go_wp2_with fail
  refine (eqInt64S_same _ _ _ _ (fCoa xs g q m n).1 _ (ints_own R_impl1.out) (ints_own R_spec_25.out) hrl).mono ?_
  rintro e w26 ⟨rfl, hb⟩
  have S26 := hid (show w25.heap.size ≤ w26.heap.size from hb.size)
  have B_26 := hid (below_trans B_25.out hb)
  have R_spec_26 := hid (own_below R_spec_25.out hb)
  have M_26 := hid (own_below M_25.out hb)
  have R_impl1_26 := hid (own_below R_impl1.out hb)
  clear B_25 R_spec_25 M_25 R_impl1 hb
  go_wp2_with fail
  refine (heldInt64S_ok _ _ (fCoa xs g q m n).1.length _ _ (ints_own M_26.out) (by omega) (by omega) (by omega)).mono ?_
  rintro e w' ⟨rfl, rfl⟩
  go_wp2_with fail
  go_ret
  exact ⟨rfl, B_26.out⟩

end Go.Proofs.Ytdbjbkdcmhekfaa
