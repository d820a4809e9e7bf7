/- BestCoats: gaps of colours and the search, no program in sight. -/
import Derived.Test.YtdbjbkdcmhekfaaOver
import Derived.Test.YtdbjbkdcmhekfaaLoopM
namespace Go.Proofs.Ytdbjbkdcmhekfaa
open Go.RowKit
set_option linter.unusedVariables false

def gap1 (x y : Int) : Int := max (x - y) (y - x)
def gapL (a b : List Int) : List Int := List.zipWith gap1 a b
def gapTo (a b : List Int) (k : Nat) : Int := ((gapL a b).take k).sum
def gapN (a b : List Int) : Int := (gapL a b).sum
theorem gapL_length {a b : List Int} (ha : Col a) (hb : Col b) : (gapL a b).length = 3 := by
  have := ha.2
  have := hb.2
  simp [gapL]
  omega
theorem gapTo_zero (a b : List Int) : gapTo a b 0 = 0 := rfl
theorem gapTo_succ {a b : List Int} {k : Nat} (h : k < a.length) (h2 : k < b.length) : gapTo a b (k + 1) = gapTo a b k + gap1 a[k] b[k] := by
  have hk : k < (gapL a b).length := by simp [gapL]; omega
  unfold gapTo
  rw [List.take_succ_eq_append_getElem hk, List.sum_append]
  simp [gapL]
theorem gapTo_end {a b : List Int} (ha : Col a) (hb : Col b) : gapTo a b a.length = gapN a b := by
  unfold gapTo gapN
  rw [List.take_of_length_le (by rw [gapL_length ha hb, ha.2]; exact Nat.le_refl _)]
theorem gap1_bd {x y : Int} (hx : 0 ≤ x ∧ x ≤ 255) (hy : 0 ≤ y ∧ y ≤ 255) : 0 ≤ gap1 x y ∧ gap1 x y ≤ 255 := by unfold gap1; omega
theorem gapTo_bd {a b : List Int} (ha : Col a) (hb : Col b) : ∀ {k : Nat}, k ≤ 3 → 0 ≤ gapTo a b k ∧ gapTo a b k ≤ 255 * (k : Int)
  | 0, _ => ⟨by rw [gapTo_zero]; omega, by rw [gapTo_zero]; omega⟩
  | k + 1, h => by
    have h1 : k < a.length := by rw [ha.2]; omega
    have h2 : k < b.length := by rw [hb.2]; omega
    have h3 := gapTo_bd ha hb (k := k) (by omega)
    have h4 := gap1_bd (ha.1 _ (List.getElem_mem h1)) (hb.1 _ (List.getElem_mem h2))
    rw [gapTo_succ h1 h2]
    omega
theorem gapN_bd {a b : List Int} (ha : Col a) (hb : Col b) : 0 ≤ gapN a b ∧ gapN a b ≤ 765 := by
  have h := gapTo_bd ha hb (k := 3) (Nat.le_refl _)
  rw [← gapTo_end ha hb, ha.2]
  omega
/-- an order of coats seen -/
def bestC (S : WS) (t : List Nat) (g : Int) : WS := if S.most < 0 ∨ g < S.most then ⟨S.left - 1, t, g⟩ else ⟨S.left - 1, S.best, S.most⟩
def entC (S : WS) (t : List Nat) (g : Int) : Option WS := if S.left = 0 then none else some (bestC S t g)
def overI (xs : List DCoat) (i : Nat) (c : List Int) : List Int := match xs[i]? with | some x => overN x c | none => c
theorem overI_at {xs : List DCoat} {i : Nat} (h : i < xs.length) (c : List Int) : overI xs i c = overN xs[i] c := by unfold overI; rw [List.getElem?_eq_getElem h]
theorem overI_col {xs : List DCoat} {i : Nat} {c : List Int} (hx : ∀ x ∈ xs, coatD x = true) (hc : Col c) : Col (overI xs i c) := by
  unfold overI
  cases h : xs[i]? with
  | none => exact hc
  | some x => exact overN_col (hx x (List.mem_of_getElem? h)) hc
/-- the search: m coats may still come -/
def srchC (xs : List DCoat) (goal : List Int) : Nat → List Nat → List Int → WS → Option WS
  | 0, t, c, S => entC S t (gapN c goal)
  | m + 1, t, c, S => (entC S t (gapN c goal)).bind fun S1 => loopO (fun i S2 => srchC xs goal m (t ++ [i]) (overI xs i c) S2) xs.length 0 S1
theorem bestC_left (S : WS) (t : List Nat) (g : Int) : (bestC S t g).left = S.left - 1 := by unfold bestC; split <;> rfl
theorem bestC_most {S : WS} {t : List Nat} {g : Int} (h : 0 ≤ g) : 0 ≤ (bestC S t g).most := by
  unfold bestC
  split
  · exact h
  · show 0 ≤ S.most
    omega
theorem entC_none {S : WS} {t : List Nat} {g : Int} (h : S.left = 0) : entC S t g = none := by rw [entC, if_pos h]
theorem entC_some {S : WS} {t : List Nat} {g : Int} (h : S.left ≠ 0) : entC S t g = some (bestC S t g) := by rw [entC, if_neg h]
noncomputable def fCoa (xs : List DCoat) (ground goal : List Int) (most budget : Int) : List Int × Int × Int :=
  if coatsB xs = false ∨ colB ground = false ∨ colB goal = false then ([], 0, 1) else if inB most 0 10 = false ∨ inB budget 1 20000 = false then ([], 0, 2) else match srchC xs goal most.toNat [] ground ⟨budget.toNat, [], -1⟩ with
  | none => ([], 0, 5)
  | some S => (intsN S.best, S.most, 0)

end Go.Proofs.Ytdbjbkdcmhekfaa
