/- Plans with clamps; steps that must not begin later: pure. -/
import Derived.Test.YtnekigpeknenjaaLateMath
namespace Go.Proofs.Ytnekigpeknenjaa
open Go.RowKit
set_option linter.unusedVariables false

def cN (xs : List DStep) (j : Nat) : Int := match xs[j]? with | some x => x.fClamps | none => 0
theorem cN_at {xs : List DStep} {j : Nat} (h : j < xs.length) : cN xs j = xs[j].fClamps := by simp only [cN, List.getElem?_eq_getElem h]
theorem step_clamps {xs : List DStep} (h : StepsTo xs xs.length) {j : Nat} (hj : j < xs.length) : 0 ≤ xs[j].fClamps ∧ xs[j].fClamps ≤ 20 := by
  have h1 := (h j hj hj).1
  simp only [stepD, stepB, Bool.and_eq_true] at h1
  exact inB_iff.1 h1.2.2.1
/-- the clamps that the first k steps use at an hour -/
def usedTo (xs : List DStep) (st : List Int) (t : Int) : Nat → Int
  | 0 => 0
  | k + 1 => usedTo xs st t k + (if gI st k ≤ t ∧ t < gI st k + hN xs k then cN xs k else 0)
theorem usedTo_bd {xs : List DStep} (h : StepsTo xs xs.length) (st : List Int) (t : Int) : ∀ k, k ≤ xs.length → 0 ≤ usedTo xs st t k ∧ usedTo xs st t k ≤ 20 * (k : Int)
  | 0, _ => by simp only [usedTo]; omega
  | k + 1, hk => by
    have ih := usedTo_bd h st t k (by omega)
    have b := step_clamps h (show k < xs.length by omega)
    rw [← cN_at] at b
    simp only [usedTo]
    split <;> omega
theorem usedTo_late {xs : List DStep} (h : StepsTo xs xs.length) {st : List Int} (hb : Bd st) (hs : st.length ≤ xs.length) {t : Int} (ht : 200 * (st.length : Int) ≤ t) : ∀ k, k ≤ st.length → usedTo xs st t k = 0
  | 0, _ => rfl
  | k + 1, hk => by
    have ih := usedTo_late h hb hs ht k (by omega)
    have b1 := hb k (by omega)
    have b2 := step_hours h (show k < xs.length by omega)
    simp only [usedTo]
    rw [gI_at (show k < st.length by omega), hN_at (show k < xs.length by omega), if_neg (by omega), ih]
    rfl
/-- the first d hours from t on use at most some clamps -/
def roomTo (xs : List DStep) (st : List Int) (most t : Int) : Nat → Bool
  | 0 => true
  | d + 1 => roomTo xs st most t d && decide (usedTo xs st (t + (d : Int)) st.length ≤ most)
def roomN (xs : List DStep) (st : List Int) (i : Nat) (clamps t : Int) : Bool := roomTo xs st (clamps - cN xs i) t (hN xs i).toNat
theorem roomTo_false {xs : List DStep} {st : List Int} {most t : Int} {d : Nat} : ∀ {n : Nat}, d < n → ¬ usedTo xs st (t + (d : Int)) st.length ≤ most → roomTo xs st most t n = false
  | 0, h, _ => absurd h (by omega)
  | n + 1, h, hu => by
    rcases Nat.lt_or_ge d n with h1 | h1
    · simp only [roomTo, roomTo_false h1 hu, Bool.false_and]
    · have : d = n := by omega
      subst this
      simp only [roomTo, decide_eq_false hu, Bool.and_false]
theorem roomTo_late {xs : List DStep} (h : StepsTo xs xs.length) {st : List Int} (hb : Bd st) (hs : st.length ≤ xs.length) {most t : Int} (hm : 0 ≤ most) (ht : 200 * (st.length : Int) ≤ t) : ∀ d, roomTo xs st most t d = true
  | 0 => rfl
  | d + 1 => by
    simp only [roomTo, roomTo_late h hb hs hm ht d, Bool.true_and]
    rw [usedTo_late h hb hs (by omega) _ (Nat.le_refl _)]
    exact decide_eq_true hm
def findH (p : Int → Bool) (t : Int) : Nat → Int
  | 0 => t
  | n + 1 => if p t then t else findH p (t + 1) n
theorem findH_yes {p : Int → Bool} {t : Int} {n : Nat} (h : p t = true) : findH p t n = t := by cases n <;> simp [findH, h]
theorem findH_no {p : Int → Bool} {t : Int} {n : Nat} (h : p t = false) : findH p t (n + 1) = findH p (t + 1) n := by simp [findH, h]
theorem findH_bd {p : Int → Bool} {B : Int} (hB : p B = true) : ∀ (n : Nat) (t : Int), t ≤ B → t ≤ findH p t n ∧ findH p t n ≤ B
  | 0, t, h => by simp only [findH]; omega
  | n + 1, t, h => by
    cases hp : p t
    · rw [findH_no hp]
      have hne : t ≠ B := fun e => by subst e; rw [hB] at hp; cases hp
      have := findH_bd hB n (t + 1) (by omega)
      omega
    · rw [findH_yes hp]; omega
def placeN (xs : List DStep) (clamps : Int) (st : List Int) (k : Nat) : Int := findH (roomN xs st k clamps) (readyN xs st k) 2401
def planTo (xs : List DStep) (clamps : Int) : Nat → List Int
  | 0 => []
  | k + 1 => planTo xs clamps k ++ [placeN xs clamps (planTo xs clamps k) k]
theorem planTo_len (xs : List DStep) (clamps : Int) : ∀ k, (planTo xs clamps k).length = k
  | 0 => rfl
  | k + 1 => by simp [planTo, planTo_len xs clamps k]
/-- the first k steps need no more than some clamps each -/
def clampsTo (xs : List DStep) (clamps : Int) : Nat → Bool
  | 0 => true
  | k + 1 => clampsTo xs clamps k && decide (cN xs k ≤ clamps)
theorem clampsTo_at {xs : List DStep} {clamps : Int} : ∀ {n : Nat}, clampsTo xs clamps n = true → ∀ k, k < n → cN xs k ≤ clamps
  | 0, _, k, h => absurd h (by omega)
  | n + 1, hc, k, h => by
    simp only [clampsTo, Bool.and_eq_true, decide_eq_true_eq] at hc
    rcases Nat.lt_or_ge k n with h1 | h1
    · exact clampsTo_at hc.1 k h1
    · have : k = n := by omega
      subst this
      exact hc.2
theorem clampsTo_no {xs : List DStep} {clamps : Int} {k : Nat} : ∀ {n : Nat}, k < n → ¬ cN xs k ≤ clamps → clampsTo xs clamps n = false
  | 0, h, _ => absurd h (by omega)
  | n + 1, h, hu => by
    rcases Nat.lt_or_ge k n with h1 | h1
    · simp only [clampsTo, clampsTo_no h1 hu, Bool.false_and]
    · have : k = n := by omega
      subst this
      simp only [clampsTo, decide_eq_false hu, Bool.and_false]
theorem clampsTo_succ {xs : List DStep} {clamps : Int} {k : Nat} (h : clampsTo xs clamps k = true) (h1 : cN xs k ≤ clamps) : clampsTo xs clamps (k + 1) = true := by
  simp only [clampsTo, h, decide_eq_true h1, Bool.true_and]
theorem place_room {xs : List DStep} (h : StepsTo xs xs.length) {st : List Int} {k : Nat} {clamps : Int} (hb : Bd st) (hs : st.length = k) (hk : k < xs.length) (hc : cN xs k ≤ clamps) {t : Int} (ht : 200 * (k : Int) ≤ t) : roomN xs st k clamps t = true :=
  roomTo_late h hb (by omega) (by omega) (by rw [hs]; exact ht) _
theorem place_bd {xs : List DStep} (h : StepsTo xs xs.length) {st : List Int} {k : Nat} {clamps : Int} (hb : Bd st) (hs : st.length = k) (hk : k < xs.length) (hc : cN xs k ≤ clamps) : 0 ≤ placeN xs clamps st k ∧ placeN xs clamps st k ≤ 200 * (k : Int) := by
  have hr := readyTo_bd h hk hb (by omega) _ (Nat.le_refl _)
  rw [← readyN_at hk] at hr
  have := findH_bd (p := roomN xs st k clamps) (B := 200 * (k : Int)) (place_room h hb hs hk hc (Int.le_refl _)) 2401 _ hr.2
  simp only [placeN]
  omega
theorem plan_bd {xs : List DStep} (h : StepsTo xs xs.length) {clamps : Int} : ∀ k, k ≤ xs.length → clampsTo xs clamps k = true → Bd (planTo xs clamps k)
  | 0, _, _ => fun j hj => absurd hj (by simp [planTo])
  | k + 1, hk, hc => by
    have hc2 := hc
    simp only [clampsTo, Bool.and_eq_true, decide_eq_true_eq] at hc2
    have ih := plan_bd h k (by omega) hc2.1
    intro j hj
    simp only [planTo]
    rcases Nat.lt_or_ge j k with h3 | h3
    · rw [List.getElem_append_left (by rw [planTo_len]; exact h3)]
      exact ih j _
    · have hjk : j = k := by rw [planTo_len] at hj; omega
      subst hjk
      rw [List.getElem_append_right (by rw [planTo_len]; exact Nat.le_refl _)]
      simp only [planTo_len, Nat.sub_self, List.getElem_cons_zero]
      exact place_bd h ih (planTo_len xs clamps j) (by omega) hc2.2
/-- a plan with clamps, or none -/
def planN (xs : List DStep) (clamps : Int) : List Int × Bool := if clampsTo xs clamps xs.length then (planTo xs clamps xs.length, true) else ([], false)
/-- the steps that must not begin later -/
def critTo (xs : List DStep) : Nat → List Int
  | 0 => []
  | k + 1 => if gI (earlyTo xs xs.length) k = gI (lateTo xs xs.length) k then critTo xs k ++ [(k : Int)] else critTo xs k
theorem critTo_len (xs : List DStep) : ∀ k, (critTo xs k).length ≤ k
  | 0 => Nat.le_refl _
  | k + 1 => by
    have := critTo_len xs k
    simp only [critTo]
    split
    · simp; omega
    · omega
theorem critTo_yes {xs : List DStep} {k : Nat} (h : gI (earlyTo xs xs.length) k = gI (lateTo xs xs.length) k) : critTo xs (k + 1) = critTo xs k ++ [(k : Int)] := by simp only [critTo, if_pos h]
theorem critTo_no {xs : List DStep} {k : Nat} (h : ¬ gI (earlyTo xs xs.length) k = gI (lateTo xs xs.length) k) : critTo xs (k + 1) = critTo xs k := by simp only [critTo, if_neg h]
/-- a number of clamps is enough for an hour -/
def fitsN (xs : List DStep) (hours n : Int) : Bool := clampsTo xs n xs.length && decide (endTo xs (planTo xs n xs.length) xs.length ≤ hours)
def fewF (p : Int → Bool) (t : Int) : Nat → Int × Int
  | 0 => (0, 3)
  | n + 1 => if p t then (t, 0) else fewF p (t + 1) n
theorem fewF_yes {p : Int → Bool} {t : Int} {n : Nat} (h : p t = true) : fewF p t (n + 1) = (t, 0) := by simp [fewF, h]
theorem fewF_no {p : Int → Bool} {t : Int} {n : Nat} (h : p t = false) : fewF p t (n + 1) = fewF p (t + 1) n := by simp [fewF, h]

end Go.Proofs.Ytnekigpeknenjaa
