/- The law FnExactTrustBy. -/
import Derived.Test.YtfagfohcbdlaeaaTrustS
import Derived.Test.YtfagfohcbdlaeaaMPaper
namespace Go.Proofs.Ytfagfohcbdlaeaa
open Go.RowKit
set_option linter.unusedVariables false

set_option maxHeartbeats 3200000 in
set_option maxRecDepth 100000 in
theorem lawTrustBy_ok (A_xs : Option Addr) (c_xs : Nat) (xs : List DPaper) (w : World) (h_xs : RowsAt w 5 A_xs (xs.map DPaper.cells)) (hk_xs : ∀ x ∈ xs, x.ok) (hn_xs : xs.length ≤ maxLen)  :
    Calls Try.prog 7 #[.slice A_xs xs.length c_xs] w fun e w' => e = .returned (.bool true) ∧ Below w.heap.size w w' := by
  have H_xs := hid h_xs
  have HK_xs := hid hk_xs
  clear h_xs hk_xs
  go_enter Try.func7, Try.ntmps7
  go_wp2_with fail
  have B_0 := hid (Below.refl w.heap.size w)
  refine (szPaperS_ok A_xs c_xs xs _ _ H_xs.out HK_xs.out hn_xs (by omega) (by omega)).mono ?_
  rintro e w1 ⟨⟨z_xs, rfl, z1_xs, z2_xs, z3_xs⟩, hb⟩
  have Z_xs := hid z3_xs
  clear z3_xs
  have S1 := hid (show w.heap.size ≤ w1.heap.size from hb.size)
  have B_1 := hid (below_trans B_0.out hb)
  clear B_0 hb
  go_wp2_with fail
  · go_ret
    exact ⟨rfl, B_1.out⟩
  have hn2_xs : xs.length ≤ 1048576 := by have := Z_xs.out ‹_›; omega
  clear Z_xs
  refine (toPaperS_ok A_xs c_xs xs _ (H_xs.out.up B_1.out (Nat.le_refl _)) hn2_xs).mono ?_
  rintro e w2 ⟨g2, rfl, ho, hb⟩
  have S2 := hid (show w1.heap.size ≤ w2.heap.size from hb.size)
  have B_2 := hid (below_trans B_1.out hb)
  clear B_1 hb
  have O_s_xs := hid ho
  have OE_s_xs := hid (own_lt ho)
  clear ho
  go_wp2_with fail
  refine (specTrust_ok _ _ xs _ (rows_own O_s_xs.out (by simp) (cellsPaper_len _)) HK_xs.out hn2_xs ).mono ?_
  rintro e w3 ⟨A3, c3, D3, d3, M3, rfl, ho, hlt, ho2, hM1, hM2, hb⟩
  have S3 := hid (show w2.heap.size ≤ w3.heap.size from hb.size)
  have B_3 := hid (below_trans B_2.out hb)
  clear B_2 hb
  have R_spec := hid ho
  have RE_spec := hid hlt
  have Q_spec := hid ho2
  have QE_spec := hid (own_lt ho2)
  have SM3 := hid (show w2.heap.size ≤ M3 ∧ M3 ≤ w3.heap.size from ⟨hM1, hM2⟩)
  clear ho hlt ho2 hM1 hM2
  go_wp2_with fail
  refine (toPaperS_ok A_xs c_xs xs _ (H_xs.out.up B_3.out (Nat.le_refl _)) hn2_xs).mono ?_
  rintro e w4 ⟨g4, rfl, ho, hb⟩
  have S4 := hid (show w3.heap.size ≤ w4.heap.size from hb.size)
  have B_4 := hid (below_trans B_3.out hb)
  have R_spec_4 := hid (own_below R_spec.out hb)
  have Q_spec_4 := hid (own_below Q_spec.out hb)
  clear B_3 R_spec Q_spec hb
  have O_x_xs := hid ho
  have OE_x_xs := hid (own_lt ho)
  clear ho
  go_wp2_with fail
  refine (implTrust_ok _ _ xs _ (rows_own O_x_xs.out (by simp) (cellsPaper_len _)) HK_xs.out hn2_xs ).mono ?_
  rintro e w5 ⟨A5, c5, D5, d5, M5, rfl, ho, hlt, ho2, hM1, hM2, hb⟩
  have S5 := hid (show w4.heap.size ≤ w5.heap.size from hb.size)
  have B_5 := hid (below_trans B_4.out hb)
  have R_spec_5 := hid (own_below R_spec_4.out hb)
  have Q_spec_5 := hid (own_below Q_spec_4.out hb)
  have O_x_xs_5 := hid (own_below O_x_xs.out hb)
  clear B_4 R_spec_4 Q_spec_4 O_x_xs hb
  have R_impl0 := hid ho
  have RE_impl0 := hid hlt
  have Q_impl0 := hid ho2
  have QE_impl0 := hid (own_lt ho2)
  have SM5 := hid (show w4.heap.size ≤ M5 ∧ M5 ≤ w5.heap.size from ⟨hM1, hM2⟩)
  clear ho hlt ho2 hM1 hM2
  go_wp2_with fail
  have hrl2 : (fTrust xs).2.1.length ≤ 1048576 := by have := (fTrust_small xs).2; omega
  have hrl : (fTrust xs).1.length ≤ 1048576 := by have := (fTrust_small xs).1; omega
  refine (eqStringS_same _ _ _ _ (fTrust xs).1 _ (strs_own R_impl0.out) (strs_own R_spec_5.out) hrl).mono ?_
  rintro e w6 ⟨rfl, hb⟩
  have S6 := hid (show w5.heap.size ≤ w6.heap.size from hb.size)
  have B_6 := hid (below_trans B_5.out hb)
  have R_spec_6 := hid (own_below R_spec_5.out hb)
  have Q_spec_6 := hid (own_below Q_spec_5.out hb)
  have O_x_xs_6 := hid (own_below O_x_xs_5.out hb)
  have R_impl0_6 := hid (own_below R_impl0.out hb)
  have Q_impl0_6 := hid (own_below Q_impl0.out hb)
  clear B_5 R_spec_5 Q_spec_5 O_x_xs_5 R_impl0 Q_impl0 hb
  go_wp2_with fail
  refine (eqInt64S_same _ _ _ _ (fTrust xs).2.1 _ (ints_own Q_impl0_6.out) (ints_own Q_spec_6.out) hrl2).mono ?_
  rintro e w7 ⟨rfl, hb⟩
  have S7 := hid (show w6.heap.size ≤ w7.heap.size from hb.size)
  have B_7 := hid (below_trans B_6.out hb)
  have R_spec_7 := hid (own_below R_spec_6.out hb)
  have Q_spec_7 := hid (own_below Q_spec_6.out hb)
  have O_x_xs_7 := hid (own_below O_x_xs_6.out hb)
  have R_impl0_7 := hid (own_below R_impl0_6.out hb)
  have Q_impl0_7 := hid (own_below Q_impl0_6.out hb)
  clear B_6 R_spec_6 Q_spec_6 O_x_xs_6 R_impl0_6 Q_impl0_6 hb
  go_wp2_with fail
  refine (toPaperS_ok A_xs c_xs xs _ (H_xs.out.up B_7.out (Nat.le_refl _)) hn2_xs).mono ?_
  rintro e w8 ⟨g8, rfl, ho, hb⟩
  have S8 := hid (show w7.heap.size ≤ w8.heap.size from hb.size)
  have B_8 := hid (below_trans B_7.out hb)
  have R_spec_8 := hid (own_below R_spec_7.out hb)
  have Q_spec_8 := hid (own_below Q_spec_7.out hb)
  have O_x_xs_8 := hid (own_below O_x_xs_7.out hb)
  have R_impl0_8 := hid (own_below R_impl0_7.out hb)
  have Q_impl0_8 := hid (own_below Q_impl0_7.out hb)
  clear B_7 R_spec_7 Q_spec_7 O_x_xs_7 R_impl0_7 Q_impl0_7 hb
  have O_y_xs := hid ho
  have OE_y_xs := hid (own_lt ho)
  clear ho
  go_wp2_with fail
  refine (eqPaperS_same _ _ _ _ xs _ (rows_own O_x_xs_8.out (by simp) (cellsPaper_len _)) (rows_own O_y_xs.out (by simp) (cellsPaper_len _)) hn2_xs).mono ?_
  rintro e w9 ⟨rfl, hb⟩
  have S9 := hid (show w8.heap.size ≤ w9.heap.size from hb.size)
  have B_9 := hid (below_trans B_8.out hb)
  have R_spec_9 := hid (own_below R_spec_8.out hb)
  have Q_spec_9 := hid (own_below Q_spec_8.out hb)
  have O_x_xs_9 := hid (own_below O_x_xs_8.out hb)
  have R_impl0_9 := hid (own_below R_impl0_8.out hb)
  have Q_impl0_9 := hid (own_below Q_impl0_8.out hb)
  clear B_8 R_spec_8 Q_spec_8 O_x_xs_8 R_impl0_8 Q_impl0_8 hb
  go_wp2_with fail
  refine (markPaperS_ok _ _ _ _ w4.heap.size _ _ _ O_x_xs_9.out OE_x_xs.out (by omega) (by omega) (by omega)).mono ?_
  rintro e w10 ⟨⟨k10, rfl, kp10, kq10⟩, hq⟩
  have S10 := hid (show w9.heap.size ≤ w10.heap.size from hq.size)
  have B_10 := hid (B_9.out.trans ((hq.below (by have := S1.out; have := S2.out; have := S3.out; have := SM3.out; have := S4.out; have := S5.out; have := SM5.out; have := S6.out; have := S7.out; have := S8.out; have := S9.out; have := S10.out; omega)).mono (by have := S1.out; have := S2.out; have := S3.out; have := SM3.out; have := S4.out; have := S5.out; have := SM5.out; have := S6.out; have := S7.out; have := S8.out; have := S9.out; have := S10.out; omega)))
  have R_spec_10 := hid (own_low R_spec_9.out RE_spec.out hq (by have := S1.out; have := S2.out; have := S3.out; have := SM3.out; have := S4.out; have := S5.out; have := SM5.out; have := S6.out; have := S7.out; have := S8.out; have := S9.out; have := S10.out; omega))
  have Q_spec_10 := hid (own_low Q_spec_9.out QE_spec.out hq (by have := S1.out; have := S2.out; have := S3.out; have := SM3.out; have := S4.out; have := S5.out; have := SM5.out; have := S6.out; have := S7.out; have := S8.out; have := S9.out; have := S10.out; omega))
  have R_impl0_10 := hid (own_chg R_impl0_9.out hq (by have := S1.out; have := S2.out; have := S3.out; have := SM3.out; have := S4.out; have := S5.out; have := SM5.out; have := S6.out; have := S7.out; have := S8.out; have := S9.out; have := S10.out; omega))
  have Q_impl0_10 := hid (own_chg Q_impl0_9.out hq (by have := S1.out; have := S2.out; have := S3.out; have := SM3.out; have := S4.out; have := S5.out; have := SM5.out; have := S6.out; have := S7.out; have := S8.out; have := S9.out; have := S10.out; omega))
  clear B_9 R_spec_9 Q_spec_9 R_impl0_9 Q_impl0_9 hq
  go_wp2_with fail
  refine (eqStringS_same _ _ _ _ (fTrust xs).1 _ (strs_own R_impl0_10.out) (strs_own R_spec_10.out) hrl).mono ?_
  rintro e w11 ⟨rfl, hb⟩
  have S11 := hid (show w10.heap.size ≤ w11.heap.size from hb.size)
  have B_11 := hid (below_trans B_10.out hb)
  have R_spec_11 := hid (own_below R_spec_10.out hb)
  have Q_spec_11 := hid (own_below Q_spec_10.out hb)
  have R_impl0_11 := hid (own_below R_impl0_10.out hb)
  have Q_impl0_11 := hid (own_below Q_impl0_10.out hb)
  clear B_10 R_spec_10 Q_spec_10 R_impl0_10 Q_impl0_10 hb
  go_wp2_with fail
  refine (eqInt64S_same _ _ _ _ (fTrust xs).2.1 _ (ints_own Q_impl0_11.out) (ints_own Q_spec_11.out) hrl2).mono ?_
  rintro e w12 ⟨rfl, hb⟩
  have S12 := hid (show w11.heap.size ≤ w12.heap.size from hb.size)
  have B_12 := hid (below_trans B_11.out hb)
  have R_spec_12 := hid (own_below R_spec_11.out hb)
  have Q_spec_12 := hid (own_below Q_spec_11.out hb)
  have R_impl0_12 := hid (own_below R_impl0_11.out hb)
  have Q_impl0_12 := hid (own_below Q_impl0_11.out hb)
  clear B_11 R_spec_11 Q_spec_11 R_impl0_11 Q_impl0_11 hb
  go_wp2_with fail
  refine (markStringS_ok _ _ _ M5 (fTrust xs).1 _ _ R_impl0_12.out RE_impl0.out (by omega) (by omega) (by omega)).mono ?_
  rintro e w13 ⟨rfl, ho, hq⟩
  have S13 := hid (show w12.heap.size ≤ w13.heap.size from hq.size)
  have B_13 := hid (B_12.out.trans ((hq.below (by have := S1.out; have := S2.out; have := S3.out; have := SM3.out; have := S4.out; have := S5.out; have := SM5.out; have := S6.out; have := S7.out; have := S8.out; have := S9.out; have := S10.out; have := S11.out; have := S12.out; have := S13.out; omega)).mono (by have := S1.out; have := S2.out; have := S3.out; have := SM3.out; have := S4.out; have := S5.out; have := SM5.out; have := S6.out; have := S7.out; have := S8.out; have := S9.out; have := S10.out; have := S11.out; have := S12.out; have := S13.out; omega)))
  have R_spec_13 := hid (own_low R_spec_12.out RE_spec.out hq (by have := S1.out; have := S2.out; have := S3.out; have := SM3.out; have := S4.out; have := S5.out; have := SM5.out; have := S6.out; have := S7.out; have := S8.out; have := S9.out; have := S10.out; have := S11.out; have := S12.out; have := S13.out; omega))
  have Q_spec_13 := hid (own_low Q_spec_12.out QE_spec.out hq (by have := S1.out; have := S2.out; have := S3.out; have := SM3.out; have := S4.out; have := S5.out; have := SM5.out; have := S6.out; have := S7.out; have := S8.out; have := S9.out; have := S10.out; have := S11.out; have := S12.out; have := S13.out; omega))
  have Q_impl0_13 := hid (own_chg Q_impl0_12.out hq (by have := S1.out; have := S2.out; have := S3.out; have := SM3.out; have := S4.out; have := S5.out; have := SM5.out; have := S6.out; have := S7.out; have := S8.out; have := S9.out; have := S10.out; have := S11.out; have := S12.out; have := S13.out; omega))
  clear B_12 R_spec_12 Q_spec_12 Q_impl0_12 hq
  have M0 := hid ho
  clear ho
  go_wp2_with fail
  refine (markInt64S_ok _ _ _ w5.heap.size (fTrust xs).2.1 _ _ Q_impl0_13.out QE_impl0.out (by omega) (by omega) (by omega)).mono ?_
  rintro e w14 ⟨rfl, ho, hq⟩
  have S14 := hid (show w13.heap.size ≤ w14.heap.size from hq.size)
  have B_14 := hid (B_13.out.trans ((hq.below (by have := S1.out; have := S2.out; have := S3.out; have := SM3.out; have := S4.out; have := S5.out; have := SM5.out; have := S6.out; have := S7.out; have := S8.out; have := S9.out; have := S10.out; have := S11.out; have := S12.out; have := S13.out; have := S14.out; omega)).mono (by have := S1.out; have := S2.out; have := S3.out; have := SM3.out; have := S4.out; have := S5.out; have := SM5.out; have := S6.out; have := S7.out; have := S8.out; have := S9.out; have := S10.out; have := S11.out; have := S12.out; have := S13.out; have := S14.out; omega)))
  have R_spec_14 := hid (own_low R_spec_13.out RE_spec.out hq (by have := S1.out; have := S2.out; have := S3.out; have := SM3.out; have := S4.out; have := S5.out; have := SM5.out; have := S6.out; have := S7.out; have := S8.out; have := S9.out; have := S10.out; have := S11.out; have := S12.out; have := S13.out; have := S14.out; omega))
  have Q_spec_14 := hid (own_low Q_spec_13.out QE_spec.out hq (by have := S1.out; have := S2.out; have := S3.out; have := SM3.out; have := S4.out; have := S5.out; have := SM5.out; have := S6.out; have := S7.out; have := S8.out; have := S9.out; have := S10.out; have := S11.out; have := S12.out; have := S13.out; have := S14.out; omega))
  have M_14 := hid (own_low M0.out RE_impl0.out hq (by have := S1.out; have := S2.out; have := S3.out; have := SM3.out; have := S4.out; have := S5.out; have := SM5.out; have := S6.out; have := S7.out; have := S8.out; have := S9.out; have := S10.out; have := S11.out; have := S12.out; have := S13.out; have := S14.out; omega))
  clear B_13 R_spec_13 Q_spec_13 M0 hq
  have N0 := hid ho
  clear ho
  go_wp2_with fail
  refine (heldStringS_ok _ _ (fTrust xs).1.length _ _ (strs_own M_14.out) (by omega) (by omega) (by omega)).mono ?_
  rintro e w15 ⟨rfl, hb⟩
  have S15 := hid (show w14.heap.size ≤ w15.heap.size from hb.size)
  have B_15 := hid (below_trans B_14.out hb)
  have R_spec_15 := hid (own_below R_spec_14.out hb)
  have Q_spec_15 := hid (own_below Q_spec_14.out hb)
  have M_15 := hid (own_below M_14.out hb)
  have N_15 := hid (own_below N0.out hb)
  clear B_14 R_spec_14 Q_spec_14 M_14 N0 hb
  go_wp2_with fail
  refine (heldInt64S_ok _ _ (fTrust xs).2.1.length _ _ (ints_own N_15.out) (by omega) (by omega) (by omega)).mono ?_
  rintro e w' ⟨rfl, rfl⟩
  go_wp2_with fail
  refine (toPaperS_ok A_xs c_xs xs _ (H_xs.out.up B_15.out (Nat.le_refl _)) hn2_xs).mono ?_
  rintro e w16 ⟨g16, rfl, ho, hb⟩
  have S16 := hid (show w15.heap.size ≤ w16.heap.size from hb.size)
  have B_16 := hid (below_trans B_15.out hb)
  have R_spec_16 := hid (own_below R_spec_15.out hb)
  have Q_spec_16 := hid (own_below Q_spec_15.out hb)
  have M_16 := hid (own_below M_15.out hb)
  have N_16 := hid (own_below N_15.out hb)
  clear B_15 R_spec_15 Q_spec_15 M_15 N_15 hb
  have O_z_xs := hid ho
  have OE_z_xs := hid (own_lt ho)
  clear ho
  go_wp2_with fail
  refine (implTrust_ok _ _ xs _ (rows_own O_z_xs.out (by simp) (cellsPaper_len _)) HK_xs.out hn2_xs ).mono ?_
  rintro e w17 ⟨A17, c17, D17, d17, M17, rfl, ho, hlt, ho2, hM1, hM2, hb⟩
  have S17 := hid (show w16.heap.size ≤ w17.heap.size from hb.size)
  have B_17 := hid (below_trans B_16.out hb)
  have R_spec_17 := hid (own_below R_spec_16.out hb)
  have Q_spec_17 := hid (own_below Q_spec_16.out hb)
  have M_17 := hid (own_below M_16.out hb)
  have N_17 := hid (own_below N_16.out hb)
  clear B_16 R_spec_16 Q_spec_16 M_16 N_16 hb
  have R_impl1 := hid ho
  have RE_impl1 := hid hlt
  have Q_impl1 := hid ho2
  have QE_impl1 := hid (own_lt ho2)
  have SM17 := hid (show w16.heap.size ≤ M17 ∧ M17 ≤ w17.heap.size from ⟨hM1, hM2⟩)
  clear ho hlt ho2 hM1 hM2
  go_wp2_with fail
  refine (eqStringS_same _ _ _ _ (fTrust xs).1 _ (strs_own R_impl1.out) (strs_own R_spec_17.out) hrl).mono ?_
  rintro e w18 ⟨rfl, hb⟩
  have S18 := hid (show w17.heap.size ≤ w18.heap.size from hb.size)
  have B_18 := hid (below_trans B_17.out hb)
  have R_spec_18 := hid (own_below R_spec_17.out hb)
  have Q_spec_18 := hid (own_below Q_spec_17.out hb)
  have M_18 := hid (own_below M_17.out hb)
  have N_18 := hid (own_below N_17.out hb)
  have R_impl1_18 := hid (own_below R_impl1.out hb)
  have Q_impl1_18 := hid (own_below Q_impl1.out hb)
  clear B_17 R_spec_17 Q_spec_17 M_17 N_17 R_impl1 Q_impl1 hb
  go_wp2_with fail
  refine (eqInt64S_same _ _ _ _ (fTrust xs).2.1 _ (ints_own Q_impl1_18.out) (ints_own Q_spec_18.out) hrl2).mono ?_
  rintro e w19 ⟨rfl, hb⟩
  have S19 := hid (show w18.heap.size ≤ w19.heap.size from hb.size)
  have B_19 := hid (below_trans B_18.out hb)
  have R_spec_19 := hid (own_below R_spec_18.out hb)
  have Q_spec_19 := hid (own_below Q_spec_18.out hb)
  have M_19 := hid (own_below M_18.out hb)
  have N_19 := hid (own_below N_18.out hb)
  have R_impl1_19 := hid (own_below R_impl1_18.out hb)
  have Q_impl1_19 := hid (own_below Q_impl1_18.out hb)
  clear B_18 R_spec_18 Q_spec_18 M_18 N_18 R_impl1_18 Q_impl1_18 hb
  go_wp2_with fail
  refine (heldStringS_ok _ _ (fTrust xs).1.length _ _ (strs_own M_19.out) (by omega) (by omega) (by omega)).mono ?_
  rintro e w20 ⟨rfl, hb⟩
  have S20 := hid (show w19.heap.size ≤ w20.heap.size from hb.size)
  have B_20 := hid (below_trans B_19.out hb)
  have R_spec_20 := hid (own_below R_spec_19.out hb)
  have Q_spec_20 := hid (own_below Q_spec_19.out hb)
  have M_20 := hid (own_below M_19.out hb)
  have N_20 := hid (own_below N_19.out hb)
  have R_impl1_20 := hid (own_below R_impl1_19.out hb)
  have Q_impl1_20 := hid (own_below Q_impl1_19.out hb)
  clear B_19 R_spec_19 Q_spec_19 M_19 N_19 R_impl1_19 Q_impl1_19 hb
  go_wp2_with fail
  refine (heldInt64S_ok _ _ (fTrust xs).2.1.length _ _ (ints_own N_20.out) (by omega) (by omega) (by omega)).mono ?_
  rintro e w' ⟨rfl, rfl⟩
  go_wp2_with fail
  go_ret
  exact ⟨rfl, B_20.out⟩

end Go.Proofs.Ytfagfohcbdlaeaa
