/- The digits of a number, from the first to the last; none for 0. No program in sight. -/
namespace Go.Proofs.YtmfadjdpbobfhaaDoor
set_option linter.unusedVariables false

def digF : Nat → Nat → List UInt8
  | 0, _ => []
  | f + 1, u => if u = 0 then [] else digF f (u / 10) ++ [UInt8.ofNat (48 + u % 10)]
theorem digF_more : ∀ (f g u : Nat), u < 10 ^ f → f ≤ g → digF g u = digF f u
  | 0, g, u, h, _ => by
    have : u = 0 := by simpa using h
    subst this
    cases g <;> rfl
  | f + 1, 0, u, h, h2 => by omega
  | f + 1, g + 1, u, h, h2 => by
    unfold digF
    split
    · rfl
    · rw [digF_more f g (u / 10) (by rw [Nat.pow_succ] at h; omega) (by omega)]
def digL (u : Nat) : List UInt8 := digF u u
theorem lt_pow (u : Nat) : u < 10 ^ u := Nat.lt_of_lt_of_le Nat.lt_two_pow_self (Nat.pow_le_pow_left (by omega) _)
theorem digL_zero : digL 0 = [] := rfl
theorem digL_step {u : Nat} (h : 0 < u) : digL u = digL (u / 10) ++ [UInt8.ofNat (48 + u % 10)] := by
  obtain ⟨f, rfl⟩ : ∃ f, u = f + 1 := ⟨u - 1, by omega⟩
  unfold digL
  rw [digF, if_neg (by omega), digF_more ((f + 1) / 10) f _ (lt_pow _) (by omega)]
theorem digF_length : ∀ (f u : Nat), (digF f u).length ≤ f
  | 0, _ => by simp [digF]
  | f + 1, u => by
    unfold digF
    split
    · simp
    · have := digF_length f (u / 10)
      simp
      omega
theorem digL_length {u : Nat} (h : u ≤ 9223372036854775807) : (digL u).length ≤ 20 := by
  have h1 : digL u = digF 20 u := by
    unfold digL
    rcases Nat.le_total u 20 with h2 | h2
    · exact (digF_more u 20 u (lt_pow u) h2).symm
    · exact digF_more 20 u u (by omega) h2
  rw [h1]
  exact digF_length 20 u

end Go.Proofs.YtmfadjdpbobfhaaDoor
