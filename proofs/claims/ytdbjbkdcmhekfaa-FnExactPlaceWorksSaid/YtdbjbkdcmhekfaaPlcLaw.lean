/- The law FnExactPlaceWorks. -/
import Derived.Test.YtdbjbkdcmhekfaaPlcF
import Derived.Test.YtdbjbkdcmhekfaaMWork
import Derived.Test.YtdbjbkdcmhekfaaInts
namespace Go.Proofs.Ytdbjbkdcmhekfaa
open Go.RowKit
set_option linter.unusedVariables false

theorem fPlc_of (m : Int) (xs : List DWork) (n : Int) : (fPlc m xs n).1.length ≤ 6 ∧ ∀ r ∈ (fPlc m xs n).1, r.length = 40 := by
  unfold fPlc
  split
  · simp
  · split
    · simp
    · rename_i h1 h2
      have hm : m.toNat ≤ 6 := by
        have h3 : inB m 1 6 = true := by cases h : inB m 1 6; exact absurd (.inl h) h2; rfl
        have := inB_iff.1 h3
        omega
      unfold fPlcT
      split
      · simp
      · rename_i p hq
        have h4 := plcS_len xs.length 0 (plan0 m.toNat) n.toNat p (fun r hr => by rw [List.eq_of_mem_replicate hr]; exact List.length_replicate) hq
        have h5 : (plan0 m.toNat).length = m.toNat := List.length_replicate
        exact ⟨by show p.length ≤ 6; omega, h4.2⟩
      · simp
theorem fPlc_small (m : Int) (xs : List DWork) (n : Int) : (fPlc m xs n).1.length ≤ 6 := (fPlc_of m xs n).1
theorem fPlc_in (m : Int) (xs : List DWork) (n : Int) : ∀ x ∈ (fPlc m xs n).1, x.length ≤ 1048576 := fun x hx => by
  have := (fPlc_of m xs n).2 x hx
  omega

set_option maxHeartbeats 3200000 in
set_option maxRecDepth 100000 in
theorem lawPlaceWorks_ok (m : Int) (A_xs : Option Addr) (c_xs : Nat) (xs : List DWork) (n : Int) (w : World) (h_xs : RowsAt w 4 A_xs (xs.map DWork.cells)) (hk_xs : ∀ x ∈ xs, x.ok) (hn_xs : xs.length ≤ maxLen)  :
    Calls Try.prog 5 #[.int .i64 m, .slice A_xs xs.length c_xs, .int .i64 n] w fun e w' => e = .returned (.bool true) ∧ Below w.heap.size w w' := by
  have H_xs := hid h_xs
  have HK_xs := hid hk_xs
  clear h_xs hk_xs
  go_enter Try.func5, Try.ntmps5
  go_wp2_with fail
  have B_0 := hid (Below.refl w.heap.size w)
  refine (szWorkS_ok A_xs c_xs xs _ _ H_xs.out HK_xs.out hn_xs (by omega) (by omega)).mono ?_
  rintro e w1 ⟨⟨z_xs, rfl, z1_xs, z2_xs, z3_xs⟩, hb⟩
  have Z_xs := hid z3_xs
  clear z3_xs
  have S1 := hid (show w.heap.size ≤ w1.heap.size from hb.size)
  have B_1 := hid (below_trans B_0.out hb)
  clear B_0 hb
  go_wp2_with fail
  · go_ret
    exact ⟨rfl, B_1.out⟩
  have hn2_xs : xs.length ≤ 1048576 := by have := Z_xs.out ‹_›; omega
  clear Z_xs
  refine (toWorkS_ok A_xs c_xs xs _ (H_xs.out.up B_1.out (Nat.le_refl _)) hn2_xs).mono ?_
  rintro e w2 ⟨g2, rfl, ho, hb⟩
  have S2 := hid (show w1.heap.size ≤ w2.heap.size from hb.size)
  have B_2 := hid (below_trans B_1.out hb)
  clear B_1 hb
  have O_s_xs := hid ho
  have OE_s_xs := hid (own_lt ho)
  clear ho
  go_wp2_with fail
  refine (specPlc_ok m _ _ xs n _ (rows_own O_s_xs.out (by simp) (cellsWork_len _)) HK_xs.out hn2_xs ).mono ?_
  rintro e w3 ⟨A3, c3, rfl, ho, hb⟩
  have S3 := hid (show w2.heap.size ≤ w3.heap.size from hb.size)
  have B_3 := hid (below_trans B_2.out hb)
  clear B_2 hb
  have R_spec := hid ho
  clear ho
  go_wp2_with fail
  refine (toWorkS_ok A_xs c_xs xs _ (H_xs.out.up B_3.out (Nat.le_refl _)) hn2_xs).mono ?_
  rintro e w4 ⟨g4, rfl, ho, hb⟩
  have S4 := hid (show w3.heap.size ≤ w4.heap.size from hb.size)
  have B_4 := hid (below_trans B_3.out hb)
  have R_spec_4 := hid (R_spec.out.below hb)
  clear B_3 R_spec hb
  have O_x_xs := hid ho
  have OE_x_xs := hid (own_lt ho)
  clear ho
  go_wp2_with fail
  refine (implPlc_ok m _ _ xs n _ (rows_own O_x_xs.out (by simp) (cellsWork_len _)) HK_xs.out hn2_xs ).mono ?_
  rintro e w5 ⟨A5, c5, rfl, ho, hb⟩
  have S5 := hid (show w4.heap.size ≤ w5.heap.size from hb.size)
  have B_5 := hid (below_trans B_4.out hb)
  have R_spec_5 := hid (R_spec_4.out.below hb)
  have O_x_xs_5 := hid (own_below O_x_xs.out hb)
  clear B_4 R_spec_4 O_x_xs hb
  have R_impl0 := hid ho
  clear ho
  go_wp2_with fail
  have hrl : (fPlc m xs n).1.length ≤ 1048576 := by have := fPlc_small m xs n; omega
  have hir : ∀ x ∈ (fPlc m xs n).1, x.length ≤ 1048576 := fPlc_in m xs n
  have hev : 0 < endP 1 (fPlc m xs n).1 := endP_pos _ _ (by omega)
  refine (eqInt64SS_same _ _ _ _ (fPlc m xs n).1 _ (R_impl0.out.at hdInt64S_length inInt64S_len) (R_spec_5.out.at hdInt64S_length inInt64S_len) hrl hir).mono ?_
  rintro e w6 ⟨rfl, hb⟩
  have S6 := hid (show w5.heap.size ≤ w6.heap.size from hb.size)
  have B_6 := hid (below_trans B_5.out hb)
  have R_spec_6 := hid (R_spec_5.out.below hb)
  have O_x_xs_6 := hid (own_below O_x_xs_5.out hb)
  have R_impl0_6 := hid (R_impl0.out.below hb)
  clear B_5 R_spec_5 O_x_xs_5 R_impl0 hb
  go_wp2_with fail
  refine (toWorkS_ok A_xs c_xs xs _ (H_xs.out.up B_6.out (Nat.le_refl _)) hn2_xs).mono ?_
  rintro e w7 ⟨g7, rfl, ho, hb⟩
  have S7 := hid (show w6.heap.size ≤ w7.heap.size from hb.size)
  have B_7 := hid (below_trans B_6.out hb)
  have R_spec_7 := hid (R_spec_6.out.below hb)
  have O_x_xs_7 := hid (own_below O_x_xs_6.out hb)
  have R_impl0_7 := hid (R_impl0_6.out.below hb)
  clear B_6 R_spec_6 O_x_xs_6 R_impl0_6 hb
  have O_y_xs := hid ho
  have OE_y_xs := hid (own_lt ho)
  clear ho
  go_wp2_with fail
  refine (eqWorkS_same _ _ _ _ xs _ (rows_own O_x_xs_7.out (by simp) (cellsWork_len _)) (rows_own O_y_xs.out (by simp) (cellsWork_len _)) hn2_xs).mono ?_
  rintro e w8 ⟨rfl, hb⟩
  have S8 := hid (show w7.heap.size ≤ w8.heap.size from hb.size)
  have B_8 := hid (below_trans B_7.out hb)
  have R_spec_8 := hid (R_spec_7.out.below hb)
  have O_x_xs_8 := hid (own_below O_x_xs_7.out hb)
  have R_impl0_8 := hid (R_impl0_7.out.below hb)
  clear B_7 R_spec_7 O_x_xs_7 R_impl0_7 hb
  go_wp2_with fail
  refine (markWorkS_ok _ _ _ _ w4.heap.size _ _ _ O_x_xs_8.out OE_x_xs.out (by omega) (by omega) (by omega)).mono ?_
  rintro e w9 ⟨⟨k9, rfl, kp9, kq9⟩, hq⟩
  have S9 := hid (show w8.heap.size ≤ w9.heap.size from hq.size)
  have B_9 := hid (B_8.out.trans ((hq.below (by have := S1.out; have := S2.out; have := S3.out; have := S4.out; have := S5.out; have := S6.out; have := S7.out; have := S8.out; have := S9.out; omega)).mono (by have := S1.out; have := S2.out; have := S3.out; have := S4.out; have := S5.out; have := S6.out; have := S7.out; have := S8.out; have := S9.out; omega)))
  have R_spec_9 := hid (R_spec_8.out.low hq (by have := S1.out; have := S2.out; have := S3.out; have := S4.out; have := S5.out; have := S6.out; have := S7.out; have := S8.out; have := S9.out; omega))
  have R_impl0_9 := hid (R_impl0_8.out.high hq (by have := S1.out; have := S2.out; have := S3.out; have := S4.out; have := S5.out; have := S6.out; have := S7.out; have := S8.out; have := S9.out; omega))
  clear B_8 R_spec_8 R_impl0_8 hq
  go_wp2_with fail
  refine (eqInt64SS_same _ _ _ _ (fPlc m xs n).1 _ (R_impl0_9.out.at hdInt64S_length inInt64S_len) (R_spec_9.out.at hdInt64S_length inInt64S_len) hrl hir).mono ?_
  rintro e w10 ⟨rfl, hb⟩
  have S10 := hid (show w9.heap.size ≤ w10.heap.size from hb.size)
  have B_10 := hid (below_trans B_9.out hb)
  have R_spec_10 := hid (R_spec_9.out.below hb)
  have R_impl0_10 := hid (R_impl0_9.out.below hb)
  clear B_9 R_spec_9 R_impl0_9 hb
  go_wp2_with fail
  refine (markInt64SV_ok _ _ _ _ (fPlc m xs n).1 _ _ R_impl0_10.out (by omega) (by omega) hrl hir).mono ?_
  rintro e w11 ⟨rfl, ho, hq⟩
  have S11 := hid (show w10.heap.size ≤ w11.heap.size from hq.size)
  have B_11 := hid (B_10.out.trans ((hq.below (by have := S1.out; have := S2.out; have := S3.out; have := S4.out; have := S5.out; have := S6.out; have := S7.out; have := S8.out; have := S9.out; have := S10.out; have := S11.out; omega)).mono (by have := S1.out; have := S2.out; have := S3.out; have := S4.out; have := S5.out; have := S6.out; have := S7.out; have := S8.out; have := S9.out; have := S10.out; have := S11.out; omega)))
  have R_spec_11 := hid (R_spec_10.out.low hq (by have := S1.out; have := S2.out; have := S3.out; have := S4.out; have := S5.out; have := S6.out; have := S7.out; have := S8.out; have := S9.out; have := S10.out; have := S11.out; omega))
  clear B_10 R_spec_10 hq
  have M0 := hid ho
  clear ho
  go_wp2_with fail
  refine (heldInt64SS_ok _ _ (fPlc m xs n).1 _ _ (M0.out.at hdInt64S_length inInt64S_len) (by omega) (by omega) hrl hir).mono ?_
  rintro e w12 ⟨rfl, hb⟩
  have S12 := hid (show w11.heap.size ≤ w12.heap.size from hb.size)
  have B_12 := hid (below_trans B_11.out hb)
  have R_spec_12 := hid (R_spec_11.out.below hb)
  have M_12 := hid (M0.out.below hb)
  clear B_11 R_spec_11 M0 hb
  go_wp2_with fail
  refine (toWorkS_ok A_xs c_xs xs _ (H_xs.out.up B_12.out (Nat.le_refl _)) hn2_xs).mono ?_
  rintro e w13 ⟨g13, rfl, ho, hb⟩
  have S13 := hid (show w12.heap.size ≤ w13.heap.size from hb.size)
  have B_13 := hid (below_trans B_12.out hb)
  have R_spec_13 := hid (R_spec_12.out.below hb)
  have M_13 := hid (M_12.out.below hb)
  clear B_12 R_spec_12 M_12 hb
  have O_z_xs := hid ho
  have OE_z_xs := hid (own_lt ho)
  clear ho
  go_wp2_with fail
  refine (implPlc_ok m _ _ xs n _ (rows_own O_z_xs.out (by simp) (cellsWork_len _)) HK_xs.out hn2_xs ).mono ?_
  rintro e w14 ⟨A14, c14, rfl, ho, hb⟩
  have S14 := hid (show w13.heap.size ≤ w14.heap.size from hb.size)
  have B_14 := hid (below_trans B_13.out hb)
  have R_spec_14 := hid (R_spec_13.out.below hb)
  have M_14 := hid (M_13.out.below hb)
  clear B_13 R_spec_13 M_13 hb
  have R_impl1 := hid ho
  clear ho
  go_wp2_with fail
  refine (eqInt64SS_same _ _ _ _ (fPlc m xs n).1 _ (R_impl1.out.at hdInt64S_length inInt64S_len) (R_spec_14.out.at hdInt64S_length inInt64S_len) hrl hir).mono ?_
  rintro e w15 ⟨rfl, hb⟩
  have S15 := hid (show w14.heap.size ≤ w15.heap.size from hb.size)
  have B_15 := hid (below_trans B_14.out hb)
  have R_spec_15 := hid (R_spec_14.out.below hb)
  have M_15 := hid (M_14.out.below hb)
  have R_impl1_15 := hid (R_impl1.out.below hb)
  clear B_14 R_spec_14 M_14 R_impl1 hb
  go_wp2_with fail
  refine (heldInt64SS_ok _ _ (fPlc m xs n).1 _ _ (M_15.out.at hdInt64S_length inInt64S_len) (by omega) (by omega) hrl hir).mono ?_
  rintro e w16 ⟨rfl, hb⟩
  have S16 := hid (show w15.heap.size ≤ w16.heap.size from hb.size)
  have B_16 := hid (below_trans B_15.out hb)
  have R_spec_16 := hid (R_spec_15.out.below hb)
  have M_16 := hid (M_15.out.below hb)
  have R_impl1_16 := hid (R_impl1_15.out.below hb)
  clear B_15 R_spec_15 M_15 R_impl1_15 hb
  go_wp2_with fail
  go_ret
  exact ⟨rfl, B_16.out⟩

end Go.Proofs.Ytdbjbkdcmhekfaa
