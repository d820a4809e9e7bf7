/- The drying of stacks in plain numbers: rounding, a line, the even moisture, a stack's moisture after days. No program in sight. -/
namespace Go.Proofs.YtmfadjdpbobfhaaDoor
set_option linter.unusedVariables false

def divR (a b : Int) : Int := if a < 0 then -((b - 2 * a) / (2 * b)) else (2 * a + b) / (2 * b)
theorem half {a b : Int} (_ha : 0 ≤ a) (hb : 0 < b) : (2 * a + b) / (2 * b) = if b - a % b ≤ a % b then a / b + 1 else a / b := by
  have h1 := Int.mul_ediv_add_emod a b
  have h2 := Int.emod_nonneg a (by omega : b ≠ 0)
  have h3 := Int.emod_lt_of_pos a hb
  generalize a / b = q at *
  generalize a % b = r at *
  split
  · refine ((Int.ediv_emod_unique (a := 2 * a + b) (b := 2 * b) (r := 2 * r - b) (q := q + 1) (by omega)).2 ⟨?_, by omega, by omega⟩).1
    have : 2 * b * (q + 1) = 2 * (b * q) + 2 * b := by rw [Int.mul_add, Int.mul_assoc, Int.mul_one]
    omega
  · refine ((Int.ediv_emod_unique (a := 2 * a + b) (b := 2 * b) (r := 2 * r + b) (q := q) (by omega)).2 ⟨?_, by omega, by omega⟩).1
    have : 2 * b * q = 2 * (b * q) := by rw [Int.mul_assoc]
    omega
theorem divR_up {a b : Int} (ha : 0 ≤ a) (hb : 0 < b) (h : b - a % b ≤ a % b) : divR a b = a / b + 1 := by
  unfold divR
  rw [if_neg (by omega), half ha hb, if_pos h]
theorem divR_down {a b : Int} (ha : 0 ≤ a) (hb : 0 < b) (h : ¬ (b - a % b ≤ a % b)) : divR a b = a / b := by
  unfold divR
  rw [if_neg (by omega), half ha hb, if_neg h]
theorem divR_neg {a b : Int} (ha : a < 0) (hb : 0 < b) : divR a b = -divR (-a) b := by
  unfold divR
  rw [if_pos ha, if_neg (by omega)]
  have e : b - 2 * a = 2 * -a + b := by omega
  rw [e]
theorem divR_nonneg {a b : Int} (ha : 0 ≤ a) (hb : 0 < b) : 0 ≤ divR a b := by
  unfold divR
  rw [if_neg (by omega)]
  exact Int.ediv_nonneg (by omega) (by omega)
theorem divR_le {a b : Int} (ha : 0 ≤ a) (hb : 0 < b) : divR a b ≤ a := by
  unfold divR
  rw [if_neg (by omega)]
  have h1 : 1 * a ≤ b * a := Int.mul_le_mul_of_nonneg_right (by omega) ha
  have h2 : (a + 1) * (2 * b) = 2 * (b * a) + 2 * b := by rw [Int.add_mul, Int.one_mul, Int.mul_comm a, Int.mul_assoc]
  have := Int.ediv_lt_of_lt_mul (a := 2 * a + b) (b := a + 1) (c := 2 * b) (by omega) (by omega)
  omega
theorem divR_third {d b : Int} (hd : 0 ≤ d) (hb : 30 ≤ b) : divR (20 * d) b ≤ d := by
  unfold divR
  rw [if_neg (by omega)]
  have h1 : 30 * d ≤ b * d := Int.mul_le_mul_of_nonneg_right hb hd
  have h2 : (d + 1) * (2 * b) = 2 * (b * d) + 2 * b := by rw [Int.add_mul, Int.one_mul, Int.mul_comm d, Int.mul_assoc]
  have := Int.ediv_lt_of_lt_mul (a := 2 * (20 * d) + b) (b := d + 1) (c := 2 * b) (by omega) (by omega)
  omega

def lineR (x0 y0 x1 y1 x : Int) : Int := if x ≤ x0 ∨ x1 ≤ x0 then y0 else if x1 ≤ x then y1 else y0 + divR ((y1 - y0) * (x - x0)) (x1 - x0)
def evenR (h : Int) : Int := if h ≤ 300 then lineR 0 0 300 60 h else if h ≤ 600 then lineR 300 60 600 110 h else if h ≤ 800 then lineR 600 110 800 160 h else lineR 800 160 1000 280 h
theorem evenR_bd {h : Int} (h0 : 0 ≤ h) (h1 : h ≤ 1000) : 0 ≤ evenR h ∧ evenR h ≤ 1000 := by
  unfold evenR
  split
  · unfold lineR divR; split <;> (try split) <;> (try split) <;> omega
  · split
    · unfold lineR divR; split <;> (try split) <;> (try split) <;> omega
    · split
      · unfold lineR divR; split <;> (try split) <;> (try split) <;> omega
      · unfold lineR divR; split <;> (try split) <;> (try split) <;> omega

def changeR (m e t : Int) : Int := divR (20 * (e - m)) (t + 20)
theorem changeR_bd {m e t : Int} (hm0 : 0 ≤ m) (hm1 : m ≤ 1000) (he0 : 0 ≤ e) (he1 : e ≤ 1000) (ht : 10 ≤ t) : 0 ≤ m + changeR m e t ∧ m + changeR m e t ≤ 1000 ∧ -1000 ≤ changeR m e t ∧ changeR m e t ≤ 1000 := by
  unfold changeR
  rcases Int.lt_or_le e m with h | h
  · rw [divR_neg (by omega) (by omega)]
    have e1 : -(20 * (e - m)) = 20 * (m - e) := by omega
    rw [e1]
    have h1 := divR_nonneg (a := 20 * (m - e)) (b := t + 20) (by omega) (by omega)
    have h2 := divR_third (d := m - e) (b := t + 20) (by omega) (by omega)
    omega
  · have h1 := divR_nonneg (a := 20 * (e - m)) (b := t + 20) (by omega) (by omega)
    have h2 := divR_third (d := e - m) (b := t + 20) (by omega) (by omega)
    omega
def afterR (e t : Int) : Nat → Int → Int
  | 0, m => m
  | n + 1, m => if changeR m e t = 0 then m else afterR e t n (m + changeR m e t)
theorem afterR_stop {e t m : Int} {n : Nat} (h : changeR m e t = 0) : afterR e t n m = m := by
  cases n with
  | zero => rfl
  | succ n => rw [afterR, if_pos h]
theorem afterR_step {e t m : Int} {D j : Nat} (hj : j < D) (h : changeR m e t ≠ 0) : afterR e t (D - j) m = afterR e t (D - (j + 1)) (m + changeR m e t) := by
  have e1 : D - j = (D - (j + 1)) + 1 := by omega
  rw [e1, afterR, if_neg h]

end Go.Proofs.YtmfadjdpbobfhaaDoor
