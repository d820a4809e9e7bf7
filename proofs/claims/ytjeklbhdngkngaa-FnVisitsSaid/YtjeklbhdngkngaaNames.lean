/- Texts that elements give, one behind the other. -/
import Derived.Test.YtjeklbhdngkngaaSetMath
namespace Go.Proofs.Ytjeklbhdngkngaa
set_option linter.unusedVariables false

/-- the texts that the first k elements give -/
def namesN (f : Nat → List Str) : Nat → List Str
  | 0 => []
  | k + 1 => namesN f k ++ f k
theorem namesN_len {f : Nat → List Str} {m : Nat} (h : ∀ k, (f k).length ≤ m) : ∀ k, (namesN f k).length ≤ m * k
  | 0 => by simp [namesN]
  | k + 1 => by
    have h1 := namesN_len h k
    have h2 := h k
    simp only [namesN, List.length_append]
    rw [Nat.mul_succ]
    omega
theorem namesN_mem {f : Nat → List Str} {z : Str} : ∀ {k : Nat}, z ∈ namesN f k ↔ ∃ j, j < k ∧ z ∈ f j
  | 0 => by simp [namesN]
  | k + 1 => by
    simp only [namesN, List.mem_append, namesN_mem (k := k)]
    constructor
    · rintro (⟨j, hj, h⟩ | h)
      · exact ⟨j, by omega, h⟩
      · exact ⟨k, by omega, h⟩
    · rintro ⟨j, hj, h⟩
      rcases Nat.lt_or_ge j k with h3 | h3
      · exact .inl ⟨j, h3, h⟩
      · have : j = k := by omega
        subst this
        exact .inr h

end Go.Proofs.Ytjeklbhdngkngaa
