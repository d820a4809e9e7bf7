/- GlueJoints: strengths and the search, no program in sight. -/
import Derived.Test.YtdbjbkdcmhekfaaVPot
import Derived.Test.YtdbjbkdcmhekfaaDivR
import Derived.Test.YtdbjbkdcmhekfaaColour
import Derived.Test.YtdbjbkdcmhekfaaLoopM
namespace Go.Proofs.Ytdbjbkdcmhekfaa
open Go.RowKit
set_option linter.unusedVariables false

def strong (x : DPot) : Int := max 0 (divR (1000 * x.fDry) (x.fDry + x.fWater) - 2 * x.fHours - 10 * max 0 (x.fHeat - 70))
def potD0 (x : DPot) : Prop := (1 ≤ x.fDry ∧ x.fDry ≤ 10000) ∧ (1 ≤ x.fWater ∧ x.fWater ≤ 10000) ∧ (20 ≤ x.fHeat ∧ x.fHeat ≤ 95) ∧ (0 ≤ x.fHours ∧ x.fHours ≤ 1000)
theorem divR_share {a b : Int} (ha : 0 ≤ a) (hb : 0 < b) (h : a ≤ 1000 * b) : 0 ≤ divR a b ∧ divR a b ≤ 1000 := by
  unfold divR
  rw [if_neg (by omega)]
  constructor
  · exact Int.ediv_nonneg (by omega) (by omega)
  · have h1 : (2 * a + b) / (2 * b) < 1001 := by
      rw [Int.ediv_lt_iff_lt_mul (by omega)]
      omega
    omega
theorem strong_bd {x : DPot} (h : potD0 x) : 0 ≤ strong x ∧ strong x ≤ 1000 := by
  obtain ⟨h1, h2, h3, h4⟩ := h
  have h5 := divR_share (a := 1000 * x.fDry) (b := x.fDry + x.fWater) (by omega) (by omega) (by omega)
  unfold strong
  omega
theorem potD_bd {x : DPot} (h : potD x = true) : potD0 x := by
  simp only [potD, potB, Bool.and_eq_true, inB_iff] at h
  exact ⟨h.2.1, h.2.2.1, h.2.2.2.1, h.2.2.2.2⟩
theorem potsB_bd {xs : List DPot} (h : potsB xs = true) : xs.length ≤ 8 ∧ ∀ x ∈ xs, potD0 x := by
  have h2 := potsB_iff.1 h
  refine ⟨h2.2, fun x hx => ?_⟩
  obtain ⟨j, hj, rfl⟩ := List.getElem_of_mem hx
  exact potD_bd (h2.1 j hj hj).1
def strI (xs : List DPot) (k : Nat) : Int := match xs[k]? with | some x => strong x | none => 0
theorem strI_at {xs : List DPot} {k : Nat} (h : k < xs.length) : strI xs k = strong xs[k] := by unfold strI; rw [List.getElem?_eq_getElem h]
theorem strI_bd {xs : List DPot} (h : ∀ x ∈ xs, potD0 x) (k : Nat) : 0 ≤ strI xs k ∧ strI xs k ≤ 1000 := by
  unfold strI
  cases hk : xs[k]? with
  | none => exact ⟨Int.le_refl _, (show (0 : Int) ≤ 1000 by omega)⟩
  | some x => exact strong_bd (h x (List.mem_of_getElem? hk))
def fullL (xs : List DPot) : List Int := xs.map fun x => x.fDry + x.fWater
def needB (ns : List Int) : Bool := ns.all (fun n => inB n 1 10000) && decide (ns.length ≤ 10)
theorem needB_iff {ns : List Int} : needB ns = true ↔ (∀ n ∈ ns, 1 ≤ n ∧ n ≤ 10000) ∧ ns.length ≤ 10 := by
  simp only [needB, Bool.and_eq_true, List.all_eq_true, decide_eq_true_eq, inB_iff]
theorem noneed_at {ns : List Int} {k : Nat} (hk : k < ns.length) (h : inB ns[k] 1 10000 = false) : needB ns = false := by
  cases e : needB ns
  · rfl
  · have := inB_iff.2 ((needB_iff.1 e).1 _ (List.getElem_mem hk))
    simp [h] at this
theorem need_end {ns : List Int} (h : AllInTo ns 1 10000 ns.length) : decide ((ns.length : Int) ≤ 10) = needB ns := by
  rw [Bool.eq_iff_iff, needB_iff, decide_eq_true_eq]
  constructor
  · intro h3
    refine ⟨fun n hn => ?_, by omega⟩
    obtain ⟨j, hj, rfl⟩ := List.getElem_of_mem hn
    exact inB_iff.1 (h j hj hj)
  · rintro ⟨_, h3⟩; omega
/-- a pot for each need -/
def leafG (S : WS) (t : List Nat) (s : Int) : WS := if S.most < 0 ∨ S.most < s then ⟨S.left, t, s⟩ else S
def needI (ns : List Int) (i : Nat) : Int := ns.getD i 0
theorem needI_at {ns : List Int} {i : Nat} (h : i < ns.length) : needI ns i = ns[i] := by unfold needI; simp [h]
def restI (rest : List Int) (k : Nat) : Int := rest.getD k 0
theorem restI_at {ns : List Int} {i : Nat} (h : i < ns.length) : restI ns i = ns[i] := by unfold restI; simp [h]
/-- the search: m needs are left -/
def srchG (xs : List DPot) (ns : List Int) : Nat → List Int → List Nat → Int → WS → Option WS
  | 0, rest, t, s, S => some (leafG S t s)
  | m + 1, rest, t, s, S => loopO (fun k S2 => if restI rest k < needI ns t.length then some S2 else if S2.left = 0 then none else srchG xs ns m (rest.set k (restI rest k - needI ns t.length)) (t ++ [k]) (s + strI xs k) ⟨S2.left - 1, S2.best, S2.most⟩) xs.length 0 S
noncomputable def fGlu (xs : List DPot) (ns : List Int) (budget : Int) : List Int × Int × Int :=
  if potsB xs = false then ([], 0, 1) else if needB ns = false ∨ inB budget 1 20000 = false then ([], 0, 2) else match srchG xs ns ns.length (fullL xs) [] 0 ⟨budget.toNat, [], -1⟩ with
  | none => ([], 0, 5)
  | some S => if S.most < 0 then ([], 0, 3) else (intsN S.best, S.most, 0)

end Go.Proofs.Ytdbjbkdcmhekfaa
