/- The law FnExactFewestClamps. -/
import Derived.Test.YtnekigpeknenjaaFewF
namespace Go.Proofs.Ytnekigpeknenjaa
open Go.RowKit
set_option linter.unusedVariables false

set_option maxHeartbeats 3200000 in
set_option maxRecDepth 100000 in
theorem lawFewestClamps_ok (A_xs : Option Addr) (c_xs : Nat) (xs : List DStep) (m : Int) (w : World) (h_xs : NestAt 1 hdStep inStep w A_xs xs) (hk_xs : ∀ x ∈ xs, x.ok) (hn_xs : xs.length ≤ maxLen)  :
    Calls Try.prog 6 #[.slice A_xs xs.length c_xs, .int .i64 m] w fun e w' => e = .returned (.bool true) ∧ Below w.heap.size w w' := by
  have H_xs := hid h_xs
  have HK_xs := hid hk_xs
  clear h_xs hk_xs
  go_enter Try.func6, Try.ntmps6
  go_wp2_with fail
  have B_0 := hid (Below.refl w.heap.size w)
  refine (szStepS_ok A_xs c_xs xs _ _ H_xs.out HK_xs.out hn_xs (by omega) (by omega)).mono ?_
  rintro e w1 ⟨⟨z_xs, rfl, z1_xs, z2_xs, z3_xs⟩, hb⟩
  have Z_xs := hid z3_xs
  clear z3_xs
  have S1 := hid (show w.heap.size ≤ w1.heap.size from hb.size)
  have B_1 := hid (below_trans B_0.out hb)
  clear B_0 hb
  go_wp2_with fail
  · go_ret
    exact ⟨rfl, B_1.out⟩
  obtain ⟨hz_xs, hi_xs⟩ := Z_xs.out ‹_›
  have hn2_xs : xs.length ≤ 1048576 := by omega
  have HI_xs := hid hi_xs
  clear Z_xs hi_xs
  refine (toStepS_ok A_xs c_xs xs _ (H_xs.out.up B_1.out (Nat.le_refl _)) hn2_xs HI_xs.out).mono ?_
  rintro e w2 ⟨g2, rfl, ho, hb⟩
  have S2 := hid (show w1.heap.size ≤ w2.heap.size from hb.size)
  have B_2 := hid (below_trans B_1.out hb)
  clear B_1 hb
  have O_s_xs := hid ho
  clear ho
  go_wp2_with fail
  refine (specFew_ok _ _ xs m _ (O_s_xs.out.at hdStep_length inStep_len) HK_xs.out hn2_xs HI_xs.out ).mono ?_
  rintro e w3 ⟨rfl, hb⟩
  have S3 := hid (show w2.heap.size ≤ w3.heap.size from hb.size)
  have B_3 := hid (below_trans B_2.out hb)
  clear B_2 hb
  go_wp2_with fail
  refine (toStepS_ok A_xs c_xs xs _ (H_xs.out.up B_3.out (Nat.le_refl _)) hn2_xs HI_xs.out).mono ?_
  rintro e w4 ⟨g4, rfl, ho, hb⟩
  have S4 := hid (show w3.heap.size ≤ w4.heap.size from hb.size)
  have B_4 := hid (below_trans B_3.out hb)
  clear B_3 hb
  have O_x_xs := hid ho
  clear ho
  go_wp2_with fail
  refine (implFew_ok _ _ xs m _ (O_x_xs.out.at hdStep_length inStep_len) HK_xs.out hn2_xs HI_xs.out ).mono ?_
  rintro e w5 ⟨rfl, hb⟩
  have S5 := hid (show w4.heap.size ≤ w5.heap.size from hb.size)
  have B_5 := hid (below_trans B_4.out hb)
  have O_x_xs_5 := hid (O_x_xs.out.below hb)
  clear B_4 O_x_xs hb
  go_wp2_with fail
  refine (toStepS_ok A_xs c_xs xs _ (H_xs.out.up B_5.out (Nat.le_refl _)) hn2_xs HI_xs.out).mono ?_
  rintro e w6 ⟨g6, rfl, ho, hb⟩
  have S6 := hid (show w5.heap.size ≤ w6.heap.size from hb.size)
  have B_6 := hid (below_trans B_5.out hb)
  have O_x_xs_6 := hid (O_x_xs_5.out.below hb)
  clear B_5 O_x_xs_5 hb
  have O_y_xs := hid ho
  clear ho
  go_wp2_with fail
  refine (eqStepS_same _ _ _ _ xs _ (O_x_xs_6.out.at hdStep_length inStep_len) (O_y_xs.out.at hdStep_length inStep_len) hn2_xs HI_xs.out).mono ?_
  rintro e w7 ⟨rfl, hb⟩
  have S7 := hid (show w6.heap.size ≤ w7.heap.size from hb.size)
  have B_7 := hid (below_trans B_6.out hb)
  have O_x_xs_7 := hid (O_x_xs_6.out.below hb)
  clear B_6 O_x_xs_6 hb
  go_wp2_with fail
  go_ret
  exact ⟨rfl, B_7.out⟩

end Go.Proofs.Ytnekigpeknenjaa
