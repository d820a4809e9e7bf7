/- Rounded quotients: impl's and spec's. -/
import Derived.Test.YtmfadjdpbobfhaaDoorReadyMath
import Derived.Test.YtmfadjdpbobfhaaDoorHas
import Derived.Test.YtmfadjdpbobfhaaDoorKeepM
import Derived.Test.YtmfadjdpbobfhaaDoorInts
import Derived.WalkLawsBesides
namespace Go.Proofs.YtmfadjdpbobfhaaDoor
open Go.RowKit
set_option linter.unusedVariables false

theorem divRound_ok (a b : Int) (w : World) (ha0 : -1000000000 ≤ a) (ha1 : a ≤ 1000000000) (hb0 : 0 < b) (hb1 : b ≤ 1000000000) : Calls Tryd.prog 86 #[.int .i64 a, .int .i64 b] w fun e w' => e = .returned (.int .i64 (divR a b)) ∧ w = w' := by
  have m2 : max b (-b) = b := by omega
  have d2 : decide (b < 0) = false := by simp; omega
  rcases Int.lt_or_le a 0 with h | h
  · obtain ⟨n, rfl⟩ : ∃ n, a = -n := ⟨-a, by omega⟩
    have m1 : max (-n) n = n := by omega
    have n0 : 0 ≤ n := by omega
    have n1 : 0 < n := by omega
    have hr := Int.emod_nonneg n (by omega : b ≠ 0)
    have hr2 := Int.emod_lt_of_pos n hb0
    have hq := Int.ediv_nonneg n0 (by omega : 0 ≤ b)
    have hq2 : n / b ≤ n := Int.ediv_le_self _ n0
    by_cases hc : b - n % b ≤ n % b
    · have HE := hid (show divR (-n) b = -(n / b + 1) by rw [divR_neg h hb0, Int.neg_neg, divR_up n0 hb0 hc])
      go_enter Tryd.func86, Tryd.ntmps86
      go_wp2_with fail
      go_ret
      exact ⟨ret_int (by rw [HE.out]; try omega), rfl⟩
    · have HE := hid (show divR (-n) b = -(n / b) by rw [divR_neg h hb0, Int.neg_neg, divR_down n0 hb0 hc])
      go_enter Tryd.func86, Tryd.ntmps86
      go_wp2_with fail
      go_ret
      exact ⟨ret_int (by rw [HE.out]; try omega), rfl⟩
  · have m1 : max a (-a) = a := by omega
    have d1 : decide (a < 0) = false := by simp; omega
    have hr := Int.emod_nonneg a (by omega : b ≠ 0)
    have hr2 := Int.emod_lt_of_pos a hb0
    have hq := Int.ediv_nonneg h (by omega : 0 ≤ b)
    have hq2 : a / b ≤ a := Int.ediv_le_self _ h
    by_cases hc : b - a % b ≤ a % b
    · have HE := hid (show divR a b = a / b + 1 by rw [divR_up h hb0 hc])
      go_enter Tryd.func86, Tryd.ntmps86
      go_wp2_with fail
      go_ret
      exact ⟨ret_int HE.out.symm, rfl⟩
    · have HE := hid (show divR a b = a / b by rw [divR_down h hb0 hc])
      go_enter Tryd.func86, Tryd.ntmps86
      go_wp2_with fail
      go_ret
      exact ⟨ret_int HE.out.symm, rfl⟩
end Go.Proofs.YtmfadjdpbobfhaaDoor
