/- Rounded quotients: impl's and spec's. -/
import Derived.Test.YtdbjbkdcmhekfaaReadyMath
import Derived.Test.YtdbjbkdcmhekfaaHas
import Derived.Test.YtdbjbkdcmhekfaaKeepM
import Derived.Test.YtdbjbkdcmhekfaaInts
import Derived.WalkLawsBesides
namespace Go.Proofs.Ytdbjbkdcmhekfaa
open Go.RowKit
set_option linter.unusedVariables false

theorem l01Div_ok (a b : Int) (w : World) (ha0 : -1000000000 ≤ a) (ha1 : a ≤ 1000000000) (hb0 : 0 < b) (hb1 : b ≤ 1000000000) : Calls Try.prog 183 #[.int .i64 a, .int .i64 b] w fun e w' => e = .returned (.int .i64 (divR a b)) ∧ w = w' := by
  rcases Int.lt_or_le a 0 with h | h
  · obtain ⟨n, rfl⟩ : ∃ n, a = -n := ⟨-a, by omega⟩
    have HE := hid (show divR (-n) b = -((b - 2 * -n) / (2 * b)) by unfold divR; rw [if_pos h])
    have q0 : 0 ≤ (b - 2 * -n) / (2 * b) := Int.ediv_nonneg (by omega) (by omega)
    have q1 : (b - 2 * -n) / (2 * b) ≤ b - 2 * -n := Int.ediv_le_self _ (by omega)
    go_enter Try.func183, Try.ntmps183
    go_wp2_with fail
    go_ret
    exact ⟨ret_int HE.out.symm, rfl⟩
  · have HE := hid (show divR a b = (2 * a + b) / (2 * b) by unfold divR; rw [if_neg (by omega)])
    go_enter Try.func183, Try.ntmps183
    go_wp2_with fail
    go_ret
    exact ⟨ret_int HE.out.symm, rfl⟩
theorem divRound_ok (a b : Int) (w : World) (ha0 : -1000000000 ≤ a) (ha1 : a ≤ 1000000000) (hb0 : 0 < b) (hb1 : b ≤ 1000000000) : Calls Try.prog 185 #[.int .i64 a, .int .i64 b] w fun e w' => e = .returned (.int .i64 (divR a b)) ∧ w = w' := by
  have m2 : max b (-b) = b := by omega
  have d2 : decide (b < 0) = false := by simp; omega
  rcases Int.lt_or_le a 0 with h | h
  · obtain ⟨n, rfl⟩ : ∃ n, a = -n := ⟨-a, by omega⟩
    have m1 : max (-n) n = n := by omega
    have n0 : 0 ≤ n := by omega
    have n1 : 0 < n := by omega
    have hr := Int.emod_nonneg n (by omega : b ≠ 0)
    have hr2 := Int.emod_lt_of_pos n hb0
    have hq := Int.ediv_nonneg n0 (by omega : 0 ≤ b)
    have hq2 : n / b ≤ n := Int.ediv_le_self _ n0
    by_cases hc : b - n % b ≤ n % b
    · have HE := hid (show divR (-n) b = -(n / b + 1) by rw [divR_neg h hb0, Int.neg_neg, divR_up n0 hb0 hc])
      go_enter Try.func185, Try.ntmps185
      go_wp2_with fail
      go_ret
      exact ⟨ret_int (by rw [HE.out]; try omega), rfl⟩
    · have HE := hid (show divR (-n) b = -(n / b) by rw [divR_neg h hb0, Int.neg_neg, divR_down n0 hb0 hc])
      go_enter Try.func185, Try.ntmps185
      go_wp2_with fail
      go_ret
      exact ⟨ret_int (by rw [HE.out]; try omega), rfl⟩
  · have m1 : max a (-a) = a := by omega
    have d1 : decide (a < 0) = false := by simp; omega
    have hr := Int.emod_nonneg a (by omega : b ≠ 0)
    have hr2 := Int.emod_lt_of_pos a hb0
    have hq := Int.ediv_nonneg h (by omega : 0 ≤ b)
    have hq2 : a / b ≤ a := Int.ediv_le_self _ h
    by_cases hc : b - a % b ≤ a % b
    · have HE := hid (show divR a b = a / b + 1 by rw [divR_up h hb0 hc])
      go_enter Try.func185, Try.ntmps185
      go_wp2_with fail
      go_ret
      exact ⟨ret_int HE.out.symm, rfl⟩
    · have HE := hid (show divR a b = a / b by rw [divR_down h hb0 hc])
      go_enter Try.func185, Try.ntmps185
      go_wp2_with fail
      go_ret
      exact ⟨ret_int HE.out.symm, rfl⟩
end Go.Proofs.Ytdbjbkdcmhekfaa
