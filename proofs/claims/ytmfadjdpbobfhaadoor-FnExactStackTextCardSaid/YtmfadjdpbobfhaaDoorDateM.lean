/- Dates: monthDays .. DateText and the reference's l02Length .. l02Text. -/
import Derived.Test.YtmfadjdpbobfhaaDoorDec
import Derived.Test.YtmfadjdpbobfhaaDoorKeep
import Derived.Test.YtmfadjdpbobfhaaDoorRange
import Derived.Test.YtmfadjdpbobfhaaDoorDateMath
import Derived.Shelf.Strings.Repeat
namespace Go.Proofs.YtmfadjdpbobfhaaDoor
open Go.RowKit
set_option linter.unusedVariables false

theorem tabM_at {y m : Int} (h1 : 1 ≤ m) (h2 : m ≤ 12) (hf : m = 2 → ¬ y % 4 = 0) : ∀ w, (Instr.index 178 (.agg #[.int .i64 31, .int .i64 28, .int .i64 31, .int .i64 30, .int .i64 31, .int .i64 30, .int .i64 31, .int .i64 31, .int .i64 30, .int .i64 31, .int .i64 30, .int .i64 31]) (.int .i64 (m - 1))).run Tryd.prog w = .ok (.int .i64 (lenM y m)) w := by
  rcases twelve h1 h2 with rfl | rfl | rfl | rfl | rfl | rfl | rfl | rfl | rfl | rfl | rfl | rfl
  case inr.inl =>
    intro w
    unfold lenM
    rw [if_pos rfl, if_neg (hf rfl)]
    kernel_rfl
  all_goals
    intro w
    unfold lenM
    simp only [show ¬ ((1 : Int) = 2) by omega, show ¬ ((3 : Int) = 2) by omega, show ¬ ((4 : Int) = 2) by omega, show ¬ ((5 : Int) = 2) by omega, show ¬ ((6 : Int) = 2) by omega, show ¬ ((7 : Int) = 2) by omega, show ¬ ((8 : Int) = 2) by omega, show ¬ ((9 : Int) = 2) by omega, show ¬ ((10 : Int) = 2) by omega, show ¬ ((11 : Int) = 2) by omega, show ¬ ((12 : Int) = 2) by omega, if_false]
    kernel_rfl

set_option maxHeartbeats 1600000 in
set_option maxRecDepth 100000 in
theorem monthDays_ok (y m : Int) (w : World) (h0 : 0 ≤ y) (hy : y ≤ 100000) (h1 : 1 ≤ m) (h2 : m ≤ 12) :
    Calls Tryd.prog 148 #[.int .i64 y, .int .i64 m] w fun e w' => e = .returned (.int .i64 (lenM y m)) ∧ w = w' := by
  have r : y.tmod 4 = y % 4 := Int.tmod_eq_emod_of_nonneg h0
  have e1 : IntKind.i64.wrap (y % 4) = y % 4 := IntWalk.i64_in _ (by omega)
  have e2 : IntKind.i64.wrap (m - 1) = m - 1 := IntWalk.i64_in _ (by omega)
  by_cases hm : m = 2
  · by_cases h : y % 4 = 0
    · have d : (y % 4 == 0) = true := by rw [beq_iff_eq]; exact h
      subst hm
      go_enter Tryd.func148, Tryd.ntmps148
      go_wp2_with fail
      go_ret
      exact ⟨by simp [lenM, h], rfl⟩
    · have d : (y % 4 == 0) = false := by rw [beq_eq_false_iff_ne]; exact h
      have i0 : ∀ w, (Instr.index 178 (.agg #[.int .i64 31, .int .i64 28, .int .i64 31, .int .i64 30, .int .i64 31, .int .i64 30, .int .i64 31, .int .i64 31, .int .i64 30, .int .i64 31, .int .i64 30, .int .i64 31]) (.int .i64 1)).run Tryd.prog w = .ok (.int .i64 (lenM y 2)) w := tabM_at (y := y) (m := 2) (by omega) (by omega) (fun _ => h)
      subst hm
      go_enter Tryd.func148, Tryd.ntmps148
      go_wp2_with fail
      go_ret
      exact ⟨rfl, rfl⟩
  · have d : (m == 2) = false := by rw [beq_eq_false_iff_ne]; exact hm
    have i0 := tabM_at (y := y) h1 h2 (fun e => absurd e hm)
    go_enter Tryd.func148, Tryd.ntmps148
    go_wp2_with fail
    go_ret
    exact ⟨rfl, rfl⟩

theorem yearDays_ok (y : Int) (w : World) (h0 : 0 ≤ y) (hy : y ≤ 100000) :
    Calls Tryd.prog 147 #[.int .i64 y] w fun e w' => e = .returned (.int .i64 (yearL y)) ∧ w = w' := by
  have hl := lenM_pos (y := y) (m := 2)
  have e1 : IntKind.i64.wrap (337 + lenM y 2) = 337 + lenM y 2 := IntWalk.i64_in _ (by omega)
  go_enter Tryd.func147, Tryd.ntmps147
  go_wp2_with (go_at_call 148; refine (monthDays_ok y 2 _ h0 hy (by omega) (by omega)).mono ?_; rintro e w' ⟨rfl, rfl⟩)
  go_ret
  exact ⟨by simp [lenM, yearL]; split <;> rfl, rfl⟩

theorem tabS_at {y : Int} {k : Nat} (h2 : k < 12) (hf : k = 1 → ¬ y % 4 = 0) (w : World) : (w.alloc (.cells #[.int .i64 31, .int .i64 28, .int .i64 31, .int .i64 30, .int .i64 31, .int .i64 30, .int .i64 31, .int .i64 31, .int .i64 30, .int .i64 31, .int .i64 30, .int .i64 31] 2)).cell? ⟨w.heap.size, k, none⟩ = some (.int .i64 (lenM y (k + 1))) := by
  rcases twelve (m := (k : Int) + 1) (by omega) (by omega) with h | h | h | h | h | h | h | h | h | h | h | h
  all_goals
    have hk := h
    rw [h]
  · obtain rfl : k = 0 := by omega
    exact (HasC.new w [.int .i64 31, .int .i64 28, .int .i64 31, .int .i64 30, .int .i64 31, .int .i64 30, .int .i64 31, .int .i64 31, .int .i64 30, .int .i64 31, .int .i64 30, .int .i64 31] 2).2 0 _ rfl
  · obtain rfl : k = 1 := by omega
    unfold lenM
    rw [if_pos rfl, if_neg (hf rfl)]
    exact (HasC.new w [.int .i64 31, .int .i64 28, .int .i64 31, .int .i64 30, .int .i64 31, .int .i64 30, .int .i64 31, .int .i64 31, .int .i64 30, .int .i64 31, .int .i64 30, .int .i64 31] 2).2 1 _ rfl
  · obtain rfl : k = 2 := by omega
    exact (HasC.new w [.int .i64 31, .int .i64 28, .int .i64 31, .int .i64 30, .int .i64 31, .int .i64 30, .int .i64 31, .int .i64 31, .int .i64 30, .int .i64 31, .int .i64 30, .int .i64 31] 2).2 2 _ rfl
  · obtain rfl : k = 3 := by omega
    exact (HasC.new w [.int .i64 31, .int .i64 28, .int .i64 31, .int .i64 30, .int .i64 31, .int .i64 30, .int .i64 31, .int .i64 31, .int .i64 30, .int .i64 31, .int .i64 30, .int .i64 31] 2).2 3 _ rfl
  · obtain rfl : k = 4 := by omega
    exact (HasC.new w [.int .i64 31, .int .i64 28, .int .i64 31, .int .i64 30, .int .i64 31, .int .i64 30, .int .i64 31, .int .i64 31, .int .i64 30, .int .i64 31, .int .i64 30, .int .i64 31] 2).2 4 _ rfl
  · obtain rfl : k = 5 := by omega
    exact (HasC.new w [.int .i64 31, .int .i64 28, .int .i64 31, .int .i64 30, .int .i64 31, .int .i64 30, .int .i64 31, .int .i64 31, .int .i64 30, .int .i64 31, .int .i64 30, .int .i64 31] 2).2 5 _ rfl
  · obtain rfl : k = 6 := by omega
    exact (HasC.new w [.int .i64 31, .int .i64 28, .int .i64 31, .int .i64 30, .int .i64 31, .int .i64 30, .int .i64 31, .int .i64 31, .int .i64 30, .int .i64 31, .int .i64 30, .int .i64 31] 2).2 6 _ rfl
  · obtain rfl : k = 7 := by omega
    exact (HasC.new w [.int .i64 31, .int .i64 28, .int .i64 31, .int .i64 30, .int .i64 31, .int .i64 30, .int .i64 31, .int .i64 31, .int .i64 30, .int .i64 31, .int .i64 30, .int .i64 31] 2).2 7 _ rfl
  · obtain rfl : k = 8 := by omega
    exact (HasC.new w [.int .i64 31, .int .i64 28, .int .i64 31, .int .i64 30, .int .i64 31, .int .i64 30, .int .i64 31, .int .i64 31, .int .i64 30, .int .i64 31, .int .i64 30, .int .i64 31] 2).2 8 _ rfl
  · obtain rfl : k = 9 := by omega
    exact (HasC.new w [.int .i64 31, .int .i64 28, .int .i64 31, .int .i64 30, .int .i64 31, .int .i64 30, .int .i64 31, .int .i64 31, .int .i64 30, .int .i64 31, .int .i64 30, .int .i64 31] 2).2 9 _ rfl
  · obtain rfl : k = 10 := by omega
    exact (HasC.new w [.int .i64 31, .int .i64 28, .int .i64 31, .int .i64 30, .int .i64 31, .int .i64 30, .int .i64 31, .int .i64 31, .int .i64 30, .int .i64 31, .int .i64 30, .int .i64 31] 2).2 10 _ rfl
  · obtain rfl : k = 11 := by omega
    exact (HasC.new w [.int .i64 31, .int .i64 28, .int .i64 31, .int .i64 30, .int .i64 31, .int .i64 30, .int .i64 31, .int .i64 31, .int .i64 30, .int .i64 31, .int .i64 30, .int .i64 31] 2).2 11 _ rfl

set_option maxHeartbeats 1600000 in
set_option maxRecDepth 100000 in
theorem l02Length_ok (y m : Int) (w : World) (h0 : 0 ≤ y) (hy : y ≤ 100000) (h1 : 1 ≤ m) (h2 : m ≤ 12) :
    Calls Tryd.prog 164 #[.int .i64 y, .int .i64 m] w fun e w' => e = .returned (.int .i64 (lenM y m)) ∧ Below w.heap.size w w' := by
  have r : y.tmod 4 = y % 4 := Int.tmod_eq_emod_of_nonneg h0
  have e1 : IntKind.i64.wrap (y % 4) = y % 4 := IntWalk.i64_in _ (by omega)
  obtain ⟨k, rfl⟩ : ∃ k : Nat, m = (k : Int) + 1 := ⟨(m - 1).toNat, by omega⟩
  have e2 : IntKind.i64.wrap ((k : Int) + 1 - 1) = (k : Int) := by rw [show (k : Int) + 1 - 1 = k by omega]; exact IntWalk.i64_in _ (by omega)
  have e3 : (k : Int) + 1 - 1 = k := by omega
  have q0 : (0 : Int) ≤ k := by omega
  have q1 : (k : Int) < 12 := by omega
  by_cases hm : k = 1
  · subst hm
    by_cases h : y % 4 = 0
    · have d : (y % 4 == 0) = true := by rw [beq_iff_eq]; exact h
      go_enter Tryd.func164, Tryd.ntmps164
      go_wp2_with fail
      go_ret
      exact ⟨by simp [lenM, h], below_alloc _ _⟩
    · have d : (y % 4 == 0) = false := by rw [beq_eq_false_iff_ne]; exact h
      have c0 := tabS_at (y := y) (k := 1) (by omega) (fun _ => h) w
      go_enter Tryd.func164, Tryd.ntmps164
      go_wp2_with fail
      go_ret
      exact ⟨by simp [lenM, h], below_alloc _ _⟩
  · have d : ((k : Int) + 1 == 2) = false := by rw [beq_eq_false_iff_ne]; omega
    have c0 := tabS_at (y := y) (k := k) (by omega) (fun e => absurd e hm) w
    go_enter Tryd.func164, Tryd.ntmps164
    go_wp2_with fail
    go_ret
    exact ⟨rfl, below_alloc _ _⟩

end Go.Proofs.YtmfadjdpbobfhaaDoor
