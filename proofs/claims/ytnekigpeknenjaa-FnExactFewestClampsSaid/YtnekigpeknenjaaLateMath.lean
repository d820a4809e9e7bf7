/- Latest starts: pure. -/
import Derived.Test.YtnekigpeknenjaaPlanMath
namespace Go.Proofs.Ytnekigpeknenjaa
open Go.RowKit
set_option linter.unusedVariables false

theorem gI_set (l : List Int) (k j : Nat) (v : Int) (hk : k < l.length) : gI (l.set k v) j = if j = k then v else gI l j := by
  unfold gI
  simp only [List.getD_eq_getElem?_getD, List.getElem?_set]
  by_cases h : j = k
  · subst h; simp [hk]
  · rw [if_neg h, if_neg (fun e => h e.symm)]
def aN (xs : List DStep) (i : Nat) : List Int := match xs[i]? with | some x => x.fIn | none => []
theorem aN_at {xs : List DStep} {i : Nat} (h : i < xs.length) : aN xs i = xs[i].fIn := by simp only [aN, List.getElem?_eq_getElem h]
def minTo (T : List Int) (i : Nat) (ns : List Int) : Nat → List Int
  | 0 => T
  | q + 1 => (minTo T i ns q).set (gI ns q).toNat (min (gI (minTo T i ns q) (gI ns q).toNat) (gI (minTo T i ns q) i))
def sminTo (xs : List DStep) (T : List Int) (i : Nat) (ns : List Int) : Nat → List Int
  | 0 => T
  | q + 1 => (sminTo xs T i ns q).set (gI ns q).toNat (min (gI (sminTo xs T i ns q) (gI ns q).toNat) (gI (sminTo xs T i ns q) i - hN xs (gI ns q).toNat))
def endN (xs : List DStep) : Int := endTo xs (earlyTo xs xs.length) xs.length
def downTo (xs : List DStep) (T : List Int) (i : Nat) : List Int := T.set i (gI T i - hN xs i)
def lateTo (xs : List DStep) : Nat → List Int
  | 0 => List.replicate xs.length (endN xs)
  | m + 1 => minTo (downTo xs (lateTo xs m) (xs.length - 1 - m)) (xs.length - 1 - m) (aN xs (xs.length - 1 - m)) (aN xs (xs.length - 1 - m)).length
def slateTo (xs : List DStep) : Nat → List Int
  | 0 => xs.map (fun x => endN xs - x.fHours)
  | m + 1 => sminTo xs (slateTo xs m) (xs.length - 1 - m) (aN xs (xs.length - 1 - m)) (aN xs (xs.length - 1 - m)).length
theorem minTo_len (T : List Int) (i : Nat) (ns : List Int) : ∀ q, (minTo T i ns q).length = T.length
  | 0 => rfl
  | q + 1 => by simp only [minTo, List.length_set, minTo_len T i ns q]
theorem sminTo_len (xs : List DStep) (T : List Int) (i : Nat) (ns : List Int) : ∀ q, (sminTo xs T i ns q).length = T.length
  | 0 => rfl
  | q + 1 => by simp only [sminTo, List.length_set, sminTo_len xs T i ns q]
theorem lateTo_len (xs : List DStep) : ∀ m, (lateTo xs m).length = xs.length
  | 0 => by simp [lateTo]
  | m + 1 => by simp only [lateTo, minTo_len, downTo, List.length_set, lateTo_len xs m]
theorem slateTo_len (xs : List DStep) : ∀ m, (slateTo xs m).length = xs.length
  | 0 => by simp [slateTo]
  | m + 1 => by simp only [slateTo, sminTo_len, slateTo_len xs m]
def BdL (lo : Int) (T : List Int) : Prop := ∀ j, lo ≤ gI T j ∧ gI T j ≤ 2400
theorem minTo_bd {lo : Int} {T : List Int} {i : Nat} {ns : List Int} (hi : i < T.length) (hns : ∀ q, q < ns.length → (gI ns q).toNat < i) (h : BdL lo T) : ∀ q, q ≤ ns.length → BdL lo (minTo T i ns q)
  | 0, _ => h
  | q + 1, hq => fun j => by
    have ih := minTo_bd hi hns h q (by omega)
    have a := hns q (by omega)
    simp only [minTo]
    rw [gI_set _ _ _ _ (by rw [minTo_len]; omega)]
    have b1 := ih j
    have b2 := ih (gI ns q).toNat
    have b3 := ih i
    split <;> omega
/-- how the two stand to each other while i is done -/
def Meet (xs : List DStep) (i : Nat) (T O : List Int) : Prop := ∀ j, j < xs.length → gI O j = if j < i then gI T j - hN xs j else gI T j
theorem meet_min {xs : List DStep} {i : Nat} {T O ns : List Int} (hi : i < xs.length) (hT : T.length = xs.length) (hO : O.length = xs.length) (hns : ∀ q, q < ns.length → (gI ns q).toNat < i) (h : Meet xs i T O) : ∀ q, q ≤ ns.length → Meet xs i (minTo T i ns q) (sminTo xs O i ns q)
  | 0, _ => h
  | q + 1, hq => fun j hj => by
    have ih := meet_min hi hT hO hns h q (by omega)
    have a := hns q (by omega)
    simp only [minTo, sminTo]
    rw [gI_set _ _ _ _ (by rw [sminTo_len]; omega), gI_set _ _ _ _ (by rw [minTo_len]; omega)]
    have b1 := ih j hj
    have b2 := ih (gI ns q).toNat (by omega)
    have b3 := ih i hi
    rw [if_neg (Nat.lt_irrefl i)] at b3
    rw [if_pos a] at b2
    by_cases hjk : j = (gI ns q).toNat
    · rw [if_pos hjk, if_pos hjk, if_pos (by omega), b2, b3, hjk]
      omega
    · rw [if_neg hjk, if_neg hjk, b1]
theorem after_lt {xs : List DStep} (h : StepsTo xs xs.length) {i : Nat} (hi : i < xs.length) : ∀ q, q < (aN xs i).length → (gI (aN xs i) q).toNat < i := by
  intro q hq
  rw [aN_at hi] at hq ⊢
  rw [gI_at hq]
  have := step_after h hi hq
  omega
theorem late_meet {xs : List DStep} (h : StepsTo xs xs.length) : ∀ m, m ≤ xs.length → Meet xs (xs.length - m) (lateTo xs m) (slateTo xs m)
  | 0, _ => fun j hj => by
    rw [if_pos (by omega), hN_at hj]
    simp only [lateTo, slateTo]
    rw [gI_at (by simpa using hj), gI_at (by simpa using hj)]
    simp
  | m + 1, hm => by
    have ih := late_meet h m (by omega)
    have e : xs.length - (m + 1) = xs.length - 1 - m := by omega
    rw [e]
    simp only [lateTo, slateTo]
    refine meet_min (by omega) (by simp only [downTo, List.length_set, lateTo_len]) (slateTo_len xs m) (after_lt h (by omega)) ?_ _ (Nat.le_refl _)
    intro j hj
    have b := ih j hj
    simp only [downTo]
    rw [gI_set _ _ _ _ (by rw [lateTo_len]; omega)]
    rcases Nat.lt_trichotomy j (xs.length - 1 - m) with h1 | h1 | h1
    · rw [if_pos h1, if_neg (by omega), b, if_pos (by omega)]
    · rw [if_neg (by omega), if_pos h1, b, if_pos (by omega), h1]
    · rw [if_neg (by omega), if_neg (by omega), b, if_neg (by omega)]
theorem late_eq {xs : List DStep} (h : StepsTo xs xs.length) : slateTo xs xs.length = lateTo xs xs.length := by
  have m := late_meet h xs.length (Nat.le_refl _)
  refine List.ext_getElem (by rw [slateTo_len, lateTo_len]) fun j h1 h2 => ?_
  have := m j (by rw [slateTo_len] at h1; exact h1)
  rw [if_neg (by omega), gI_at h1, gI_at h2] at this
  exact this
theorem endN_bd {xs : List DStep} (h : StepsTo xs xs.length) (hn : xs.length ≤ 12) : 0 ≤ endN xs ∧ endN xs ≤ 2400 := by
  have := endTo_bd h (early_bd h xs.length (Nat.le_refl _)) (earlyTo_len xs _) xs.length (Nat.le_refl _)
  unfold endN
  omega
theorem down_bd {xs : List DStep} (h : StepsTo xs xs.length) {lo : Int} {T : List Int} {i : Nat} (hi : i < xs.length) (hT : T.length = xs.length) (hb : BdL lo T) : BdL (lo - 200) (downTo xs T i) := fun j => by
  have b1 := hb j
  have b2 := hb i
  have b3 := step_hours h hi
  simp only [downTo]
  rw [gI_set _ _ _ _ (by omega), hN_at hi]
  split <;> omega
theorem late_bd {xs : List DStep} (h : StepsTo xs xs.length) (hn : xs.length ≤ 12) : ∀ m : Nat, m ≤ xs.length → BdL (-200 * (m : Int)) (lateTo xs m)
  | 0, _ => fun j => by
    have b := endN_bd h hn
    simp only [lateTo, gI, List.getD_eq_getElem?_getD, List.getElem?_replicate]
    split <;> simp <;> omega
  | m + 1, hm => by
    have ih := late_bd h hn m (by omega)
    simp only [lateTo]
    have d := down_bd h (i := xs.length - 1 - m) (by omega) (lateTo_len xs m) ih
    have e : -200 * (m : Int) - 200 = -200 * ((m + 1 : Nat) : Int) := by omega
    rw [e] at d
    exact minTo_bd (by simp only [downTo, List.length_set, lateTo_len]; omega) (after_lt h (by omega)) d _ (Nat.le_refl _)

end Go.Proofs.Ytnekigpeknenjaa
