/- Earliest starts, the end of a plan: pure. -/
import Derived.Test.YtnekigpeknenjaaVStep
namespace Go.Proofs.Ytnekigpeknenjaa
open Go.RowKit
set_option linter.unusedVariables false

def hN (xs : List DStep) (j : Nat) : Int := match xs[j]? with | some x => x.fHours | none => 0
theorem hN_at {xs : List DStep} {j : Nat} (h : j < xs.length) : hN xs j = xs[j].fHours := by simp only [hN, List.getElem?_eq_getElem h]
def gI (ns : List Int) (j : Nat) : Int := ns.getD j 0
theorem gI_at {ns : List Int} {j : Nat} (h : j < ns.length) : gI ns j = ns[j] := by simp [gI, h]
def readyTo (xs : List DStep) (st ns : List Int) : Nat → Int
  | 0 => 0
  | q + 1 => max (readyTo xs st ns q) (gI st (gI ns q).toNat + hN xs (gI ns q).toNat)
def readyN (xs : List DStep) (st : List Int) (i : Nat) : Int := match xs[i]? with | some x => readyTo xs st x.fIn x.fIn.length | none => 0
def earlyTo (xs : List DStep) : Nat → List Int
  | 0 => []
  | k + 1 => earlyTo xs k ++ [readyN xs (earlyTo xs k) k]
def endTo (xs : List DStep) (st : List Int) : Nat → Int
  | 0 => 0
  | k + 1 => max (endTo xs st k) (gI st k + hN xs k)
theorem earlyTo_len (xs : List DStep) : ∀ k, (earlyTo xs k).length = k
  | 0 => rfl
  | k + 1 => by simp [earlyTo, earlyTo_len xs k]
/-- a plan's starts lie between bounds -/
def Bd (st : List Int) : Prop := ∀ j (h : j < st.length), 0 ≤ st[j] ∧ st[j] ≤ 200 * (j : Int)
theorem step_hours {xs : List DStep} (h : StepsTo xs xs.length) {j : Nat} (hj : j < xs.length) : 1 ≤ xs[j].fHours ∧ xs[j].fHours ≤ 200 := by
  have h1 := (h j hj hj).1
  simp only [stepD, stepB, Bool.and_eq_true] at h1
  exact inB_iff.1 h1.2.1
theorem step_after {xs : List DStep} (h : StepsTo xs xs.length) {i : Nat} (hi : i < xs.length) {q : Nat} (hq : q < xs[i].fIn.length) : 0 ≤ xs[i].fIn[q] ∧ xs[i].fIn[q] < (i : Int) := by
  have h1 := rises_mem (h i hi hi).2.1 _ (List.getElem_mem hq)
  omega
theorem readyTo_bd {xs : List DStep} (h : StepsTo xs xs.length) {st : List Int} {i : Nat} (hi : i < xs.length) (hb : Bd st) (hs : i ≤ st.length) : ∀ q, q ≤ xs[i].fIn.length → 0 ≤ readyTo xs st xs[i].fIn q ∧ readyTo xs st xs[i].fIn q ≤ 200 * (i : Int)
  | 0, _ => by simp only [readyTo]; omega
  | q + 1, hq => by
    have ih := readyTo_bd h hi hb hs q (by omega)
    have ha := step_after h hi (show q < xs[i].fIn.length by omega)
    simp only [readyTo]
    rw [gI_at (ns := xs[i].fIn) (by omega)]
    obtain ⟨p, hp⟩ : ∃ p : Nat, xs[i].fIn[q] = (p : Int) := ⟨xs[i].fIn[q].toNat, by omega⟩
    rw [hp]
    rw [hp] at ha
    simp only [Int.toNat_natCast]
    have b1 := hb p (by omega)
    have b2 := step_hours h (show p < xs.length by omega)
    rw [gI_at (show p < st.length by omega), hN_at (show p < xs.length by omega)]
    omega
theorem readyN_at {xs : List DStep} {st : List Int} {i : Nat} (hi : i < xs.length) : readyN xs st i = readyTo xs st xs[i].fIn xs[i].fIn.length := by simp only [readyN, List.getElem?_eq_getElem hi]
theorem early_bd {xs : List DStep} (h : StepsTo xs xs.length) : ∀ k, k ≤ xs.length → Bd (earlyTo xs k)
  | 0, _ => fun j hj => absurd hj (by simp [earlyTo])
  | k + 1, hk => by
    have ih := early_bd h k (by omega)
    intro j hj
    simp only [earlyTo]
    rcases Nat.lt_or_ge j k with h3 | h3
    · rw [List.getElem_append_left (by rw [earlyTo_len]; exact h3)]
      exact ih j _
    · have hjk : j = k := by rw [earlyTo_len] at hj; omega
      subst hjk
      rw [List.getElem_append_right (by rw [earlyTo_len]; exact Nat.le_refl _)]
      simp only [earlyTo_len, Nat.sub_self, List.getElem_cons_zero]
      rw [readyN_at (by omega)]
      exact readyTo_bd h (by omega) ih (by rw [earlyTo_len]; exact Nat.le_refl _) _ (Nat.le_refl _)
theorem endTo_bd {xs : List DStep} (h : StepsTo xs xs.length) {st : List Int} (hb : Bd st) (hs : st.length = xs.length) : ∀ k, k ≤ xs.length → 0 ≤ endTo xs st k ∧ endTo xs st k ≤ 200 * (k : Int)
  | 0, _ => by simp only [endTo]; omega
  | k + 1, hk => by
    have ih := endTo_bd h hb hs k (by omega)
    have b1 := hb k (by omega)
    have b2 := step_hours h (show k < xs.length by omega)
    simp only [endTo]
    rw [gI_at (show k < st.length by omega), hN_at (show k < xs.length by omega)]
    omega

end Go.Proofs.Ytnekigpeknenjaa
