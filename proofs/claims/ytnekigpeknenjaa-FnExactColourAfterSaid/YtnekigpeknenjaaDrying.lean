/- Rounding, lines, the even moisture, a stack's moisture after days: impl's and spec's functions. -/
import Derived.Test.YtnekigpeknenjaaReadyMath
import Derived.Test.YtnekigpeknenjaaHas
import Derived.Test.YtnekigpeknenjaaKeepM
import Derived.Test.YtnekigpeknenjaaInts
import Derived.Test.YtnekigpeknenjaaTStack
import Derived.WalkLawsBesides
namespace Go.Proofs.Ytnekigpeknenjaa
open Go.RowKit
set_option linter.unusedVariables false

theorem l01Div_ok (a b : Int) (w : World) (ha0 : -1000000000 ≤ a) (ha1 : a ≤ 1000000000) (hb0 : 0 < b) (hb1 : b ≤ 1000000000) : Calls Try.prog 162 #[.int .i64 a, .int .i64 b] w fun e w' => e = .returned (.int .i64 (divR a b)) ∧ w = w' := by
  rcases Int.lt_or_le a 0 with h | h
  · obtain ⟨n, rfl⟩ : ∃ n, a = -n := ⟨-a, by omega⟩
    have HE := hid (show divR (-n) b = -((b - 2 * -n) / (2 * b)) by unfold divR; rw [if_pos h])
    have q0 : 0 ≤ (b - 2 * -n) / (2 * b) := Int.ediv_nonneg (by omega) (by omega)
    have q1 : (b - 2 * -n) / (2 * b) ≤ b - 2 * -n := Int.ediv_le_self _ (by omega)
    go_enter Try.func162, Try.ntmps162
    go_wp2_with fail
    go_ret
    exact ⟨ret_int HE.out.symm, rfl⟩
  · have HE := hid (show divR a b = (2 * a + b) / (2 * b) by unfold divR; rw [if_neg (by omega)])
    go_enter Try.func162, Try.ntmps162
    go_wp2_with fail
    go_ret
    exact ⟨ret_int HE.out.symm, rfl⟩
theorem divRound_ok (a b : Int) (w : World) (ha0 : -1000000000 ≤ a) (ha1 : a ≤ 1000000000) (hb0 : 0 < b) (hb1 : b ≤ 1000000000) : Calls Try.prog 166 #[.int .i64 a, .int .i64 b] w fun e w' => e = .returned (.int .i64 (divR a b)) ∧ w = w' := by
  have m2 : max b (-b) = b := by omega
  have d2 : decide (b < 0) = false := by simp; omega
  rcases Int.lt_or_le a 0 with h | h
  · obtain ⟨n, rfl⟩ : ∃ n, a = -n := ⟨-a, by omega⟩
    have m1 : max (-n) n = n := by omega
    have n0 : 0 ≤ n := by omega
    have n1 : 0 < n := by omega
    have hr := Int.emod_nonneg n (by omega : b ≠ 0)
    have hr2 := Int.emod_lt_of_pos n hb0
    have hq := Int.ediv_nonneg n0 (by omega : 0 ≤ b)
    have hq2 : n / b ≤ n := Int.ediv_le_self _ n0
    by_cases hc : b - n % b ≤ n % b
    · have HE := hid (show divR (-n) b = -(n / b + 1) by rw [divR_neg h hb0, Int.neg_neg, divR_up n0 hb0 hc])
      go_enter Try.func166, Try.ntmps166
      go_wp2_with fail
      go_ret
      exact ⟨ret_int (by rw [HE.out]; try omega), rfl⟩
    · have HE := hid (show divR (-n) b = -(n / b) by rw [divR_neg h hb0, Int.neg_neg, divR_down n0 hb0 hc])
      go_enter Try.func166, Try.ntmps166
      go_wp2_with fail
      go_ret
      exact ⟨ret_int (by rw [HE.out]; try omega), rfl⟩
  · have m1 : max a (-a) = a := by omega
    have d1 : decide (a < 0) = false := by simp; omega
    have hr := Int.emod_nonneg a (by omega : b ≠ 0)
    have hr2 := Int.emod_lt_of_pos a hb0
    have hq := Int.ediv_nonneg h (by omega : 0 ≤ b)
    have hq2 : a / b ≤ a := Int.ediv_le_self _ h
    by_cases hc : b - a % b ≤ a % b
    · have HE := hid (show divR a b = a / b + 1 by rw [divR_up h hb0 hc])
      go_enter Try.func166, Try.ntmps166
      go_wp2_with fail
      go_ret
      exact ⟨ret_int HE.out.symm, rfl⟩
    · have HE := hid (show divR a b = a / b by rw [divR_down h hb0 hc])
      go_enter Try.func166, Try.ntmps166
      go_wp2_with fail
      go_ret
      exact ⟨ret_int HE.out.symm, rfl⟩

def LineBd (x0 y0 x1 y1 x : Int) : Prop := (0 ≤ x0 ∧ x0 ≤ 10000) ∧ (0 ≤ y0 ∧ y0 ≤ 10000) ∧ (0 ≤ x1 ∧ x1 ≤ 10000) ∧ (y0 ≤ y1 ∧ y1 ≤ 10000) ∧ (0 ≤ x ∧ x ≤ 10000)
theorem l01Line_ok (x0 y0 x1 y1 x : Int) (w : World) (h : LineBd x0 y0 x1 y1 x) : Calls Try.prog 171 #[.int .i64 x0, .int .i64 y0, .int .i64 x1, .int .i64 y1, .int .i64 x] w fun e w' => e = .returned (.int .i64 (lineR x0 y0 x1 y1 x)) ∧ w = w' := by
  obtain ⟨⟨a0, a1⟩, ⟨b0, b1⟩, ⟨c0, c1⟩, ⟨d0, d1⟩, ⟨f0, f1⟩⟩ := h
  by_cases h1 : x ≤ x0
  · have HE := hid (show lineR x0 y0 x1 y1 x = y0 by unfold lineR; rw [if_pos (.inl h1)])
    go_enter Try.func171, Try.ntmps171
    go_wp2_with fail
    go_ret
    exact ⟨ret_int HE.out.symm, rfl⟩
  by_cases h2 : x1 ≤ x0
  · have HE := hid (show lineR x0 y0 x1 y1 x = y0 by unfold lineR; rw [if_pos (.inr h2)])
    go_enter Try.func171, Try.ntmps171
    go_wp2_with fail
    go_ret
    exact ⟨ret_int HE.out.symm, rfl⟩
  by_cases h3 : x1 ≤ x
  · have HE := hid (show lineR x0 y0 x1 y1 x = y1 by unfold lineR; rw [if_neg (by omega), if_pos h3])
    go_enter Try.func171, Try.ntmps171
    go_wp2_with fail
    go_ret
    exact ⟨ret_int HE.out.symm, rfl⟩
  · have HE := hid (show lineR x0 y0 x1 y1 x = y0 + divR ((y1 - y0) * (x - x0)) (x1 - x0) by unfold lineR; rw [if_neg (by omega), if_neg h3])
    have p0 : 0 ≤ (y1 - y0) * (x - x0) := Int.mul_nonneg (by omega) (by omega)
    have p1 : (y1 - y0) * (x - x0) ≤ 10000 * 10000 := Int.mul_le_mul (by omega) (by omega) (by omega) (by omega)
    have r0 := divR_nonneg p0 (b := x1 - x0) (by omega)
    have r1 := divR_le p0 (b := x1 - x0) (by omega)
    go_enter Try.func171, Try.ntmps171
    go_wp2_with (go_at_call 162; refine (l01Div_ok _ _ _ (by omega) (by omega) (by omega) (by omega)).mono ?_; rintro e w' ⟨rfl, rfl⟩)
    go_ret
    exact ⟨ret_int HE.out.symm, rfl⟩
theorem blend_ok (x0 y0 x1 y1 x : Int) (w : World) (h : LineBd x0 y0 x1 y1 x) : Calls Try.prog 200 #[.int .i64 x0, .int .i64 y0, .int .i64 x1, .int .i64 y1, .int .i64 x] w fun e w' => e = .returned (.int .i64 (lineR x0 y0 x1 y1 x)) ∧ w = w' := by
  obtain ⟨⟨a0, a1⟩, ⟨b0, b1⟩, ⟨c0, c1⟩, ⟨d0, d1⟩, ⟨f0, f1⟩⟩ := h
  by_cases h1 : x ≤ x0
  · have HE := hid (show lineR x0 y0 x1 y1 x = y0 by unfold lineR; rw [if_pos (.inl h1)])
    go_enter Try.func200, Try.ntmps200
    go_wp2_with fail
    go_ret
    exact ⟨ret_int HE.out.symm, rfl⟩
  by_cases h2 : x1 ≤ x0
  · have HE := hid (show lineR x0 y0 x1 y1 x = y0 by unfold lineR; rw [if_pos (.inr h2)])
    go_enter Try.func200, Try.ntmps200
    go_wp2_with fail
    go_ret
    exact ⟨ret_int HE.out.symm, rfl⟩
  by_cases h3 : x1 ≤ x
  · have HE := hid (show lineR x0 y0 x1 y1 x = y1 by unfold lineR; rw [if_neg (by omega), if_pos h3])
    go_enter Try.func200, Try.ntmps200
    go_wp2_with fail
    go_ret
    exact ⟨ret_int HE.out.symm, rfl⟩
  · have HE := hid (show lineR x0 y0 x1 y1 x = y0 + divR ((y1 - y0) * (x - x0)) (x1 - x0) by unfold lineR; rw [if_neg (by omega), if_neg h3])
    have p0 : 0 ≤ (y1 - y0) * (x - x0) := Int.mul_nonneg (by omega) (by omega)
    have p1 : (y1 - y0) * (x - x0) ≤ 10000 * 10000 := Int.mul_le_mul (by omega) (by omega) (by omega) (by omega)
    have r0 := divR_nonneg p0 (b := x1 - x0) (by omega)
    have r1 := divR_le p0 (b := x1 - x0) (by omega)
    go_enter Try.func200, Try.ntmps200
    go_wp2_with (go_at_call 166; refine (divRound_ok _ _ _ (by omega) (by omega) (by omega) (by omega)).mono ?_; rintro e w' ⟨rfl, rfl⟩)
    go_ret
    exact ⟨ret_int HE.out.symm, rfl⟩

def ChangeBd (m e t : Int) : Prop := (0 ≤ m ∧ m ≤ 1000) ∧ (0 ≤ e ∧ e ≤ 1000) ∧ (10 ≤ t ∧ t ≤ 1000)
theorem l04Change_ok (m e t : Int) (w : World) (h : ChangeBd m e t) : Calls Try.prog 170 #[.int .i64 m, .int .i64 e, .int .i64 t] w fun e' w' => e' = .returned (.int .i64 (changeR m e t)) ∧ w = w' := by
  obtain ⟨⟨a0, a1⟩, ⟨b0, b1⟩, ⟨c0, c1⟩⟩ := h
  go_enter Try.func170, Try.ntmps170
  go_wp2_with (go_at_call 162; refine (l01Div_ok _ _ _ (by omega) (by omega) (by omega) (by omega)).mono ?_; rintro e w' ⟨rfl, rfl⟩)
  go_ret
  exact ⟨rfl, rfl⟩
theorem change_ok (m e t : Int) (w : World) (h : ChangeBd m e t) : Calls Try.prog 174 #[.int .i64 m, .int .i64 e, .int .i64 t] w fun e' w' => e' = .returned (.int .i64 (changeR m e t)) ∧ w = w' := by
  obtain ⟨⟨a0, a1⟩, ⟨b0, b1⟩, ⟨c0, c1⟩⟩ := h
  go_enter Try.func174, Try.ntmps174
  go_wp2_with (go_at_call 166; refine (divRound_ok _ _ _ (by omega) (by omega) (by omega) (by omega)).mono ?_; rintro e w' ⟨rfl, rfl⟩)
  go_ret
  exact ⟨rfl, rfl⟩

set_option maxHeartbeats 800000 in
theorem l04After_ok (m e t : Int) (D : Nat) (w : World) (hb : ChangeBd m e t) (hD : D ≤ 10000) : Calls Try.prog 106 #[.int .i64 m, .int .i64 e, .int .i64 t, .int .i64 D] w fun e' w' => e' = .returned (.int .i64 (afterR e t D m)) ∧ w = w' := by
  obtain ⟨⟨a0, a1⟩, HE, HT⟩ := hb
  have HB := hid (And.intro HE HT)
  clear HE HT
  go_enter Try.func106, Try.ntmps106
  go_wp2_with fail
  go_loop [0, 9] (fun z k => ∃ (j : Nat) (z' : Int), j ≤ D ∧ k = .int .i64 j ∧ z = .int .i64 z' ∧ 0 ≤ z' ∧ z' ≤ 1000 ∧ afterR e t (D - j) z' = afterR e t D m) (fun _ k => D - (intOf k).toNat)
  case atStart => exact ⟨0, m, Nat.zero_le _, rfl, rfl, a0, a1, rfl⟩
  case round =>
    obtain ⟨j, z, hj, rfl, rfl, z0, z1, hz⟩ := hrel
    have HZ := hid hz
    clear hz
    have CB : ChangeBd z e t := ⟨⟨z0, z1⟩, HB.out⟩
    obtain ⟨y0, y1, y2, y3⟩ := changeR_bd z0 z1 HB.out.1.1 HB.out.1.2 HB.out.2.1
    by_cases hjd : j < D
    · by_cases hc : changeR z e t = 0
      · have HF := hid (show afterR e t D m = z by rw [← HZ.out, afterR_stop hc])
        have d1 : (changeR z e t == 0) = true := by rw [beq_iff_eq]; exact hc
        clear hc
        go_wp2_with (go_at_call 170; refine (l04Change_ok _ _ _ _ CB).mono ?_; rintro e w' ⟨rfl, rfl⟩)
        go_ret
        exact ⟨ret_int HF.out.symm, rfl⟩
      · have HF := hid (show afterR e t (D - (j + 1)) (z + changeR z e t) = afterR e t D m by rw [← HZ.out, afterR_step hjd hc])
        have d1 : (changeR z e t == 0) = false := by rw [beq_eq_false_iff_ne]; exact hc
        clear hc
        go_wp2_with (go_at_call 170; refine (l04Change_ok _ _ _ _ CB).mono ?_; rintro e w' ⟨rfl, rfl⟩)
        go_round
        case rel => exact ⟨j + 1, z + changeR z e t, by omega, by go_num, rfl, y0, y1, HF.out⟩
        case measure => simp [intOf]; omega
    · have hj2 : j = D := by omega
      subst hj2
      have HF := hid (show afterR e t j m = z by rw [← HZ.out, Nat.sub_self]; rfl)
      go_wp2_with fail
      go_ret
      exact ⟨ret_int HF.out.symm, rfl⟩

end Go.Proofs.Ytnekigpeknenjaa
