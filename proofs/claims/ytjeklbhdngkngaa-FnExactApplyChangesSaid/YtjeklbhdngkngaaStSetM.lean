/- States: the reference's l27Set. -/
import Derived.Test.YtjeklbhdngkngaaStConf
namespace Go.Proofs.Ytjeklbhdngkngaa
open Go.RowKit
set_option linter.unusedVariables false

/-- what one setting of a state adds -/
def setStep (e x : DSetting) (r : List DSetting × Bool) : List DSetting × Bool :=
  ((if r.2 = false ∧ Op.bytesLess x.fName.toList e.fName.toList = false then r.1 ++ [e] else r.1) ++ (if (x.fName.toList == e.fName.toList) = true then [] else [x]), r.2 || !Op.bytesLess x.fName.toList e.fName.toList)
def setTo (xs : List DSetting) (e : DSetting) : Nat → List DSetting × Bool
  | 0 => ([], false)
  | k + 1 => match xs[k]? with | some x => setStep e x (setTo xs e k) | none => setTo xs e k
theorem setTo_succ {xs : List DSetting} {e : DSetting} {k : Nat} (h : k < xs.length) : setTo xs e (k + 1) = setStep e xs[k] (setTo xs e k) := by simp only [setTo, List.getElem?_eq_getElem h]
/-- a state with another setting -/
def setS (xs : List DSetting) (e : DSetting) : List DSetting := if (setTo xs e xs.length).2 = true then (setTo xs e xs.length).1 else (setTo xs e xs.length).1 ++ [e]
theorem setTo_len {xs : List DSetting} {e : DSetting} : ∀ k, (setTo xs e k).1.length ≤ 2 * k
  | 0 => by simp [setTo]
  | k + 1 => by
    have ih := setTo_len (xs := xs) (e := e) k
    simp only [setTo]
    split
    · unfold setStep
      simp only [List.length_append]
      split <;> split <;> simp <;> omega
    · omega
/-- in an ascending state: below the place, and behind it -/
theorem setTo_val {xs : List DSetting} {e : DSetting} (hU : ∀ (j : Nat) (hj : j < xs.length) (i : Nat) (hi : i < j), stn xs[i] < stn xs[j]) : ∀ k, k ≤ xs.length →
    (((setTo xs e k).2 = false ∧ (setTo xs e k).1 = xs.take k ∧ ∀ j (h : j < xs.length), j < k → stn xs[j] < stn e) ∨ ((setTo xs e k).2 = true ∧ (∃ (j : Nat) (h : j < xs.length), j < k ∧ ¬ stn xs[j] < stn e) ∧ ((setTo xs e k).1.map stn) = putS ((xs.take k).map stn) (stn e) ∧ (∀ z ∈ (setTo xs e k).1.map stn, z = stn e ∨ ∃ (j : Nat) (h : j < xs.length), j < k ∧ z = stn xs[j])))
  | 0, _ => .inl ⟨rfl, rfl, fun j h hj => absurd hj (Nat.not_lt_zero _)⟩
  | k + 1, hk => by
    have hkl : k < xs.length := by omega
    have ht : xs.take (k + 1) = xs.take k ++ [xs[k]] := List.take_succ_eq_append_getElem hkl
    have hUk : Up ((xs.take k).map stn) := by
      rw [List.map_take]
      refine List.Pairwise.sublist (List.take_sublist _ _) ?_
      rw [List.pairwise_iff_getElem]
      intro i j hi hj hij
      rw [List.getElem_map, List.getElem_map]
      exact hU j (by simpa using hj) i hij
    have hUk1 : Up ((xs.take (k + 1)).map stn) := by
      rw [List.map_take]
      refine List.Pairwise.sublist (List.take_sublist _ _) ?_
      rw [List.pairwise_iff_getElem]
      intro i j hi hj hij
      rw [List.getElem_map, List.getElem_map]
      exact hU j (by simpa using hj) i hij
    have hb : Op.bytesLess xs[k].fName.toList e.fName.toList = decide (stn xs[k] < stn e) := less_iff _ _
    have he : (xs[k].fName.toList == e.fName.toList) = decide (stn xs[k] = stn e) := by
      rw [Lib.toList_data, Lib.toList_data, Bool.eq_iff_iff, beq_iff_eq, decide_eq_true_iff]
      exact Iff.rfl
    rw [setTo_succ hkl]
    rcases setTo_val (e := e) hU k (by omega) with ⟨h1, h2, h3⟩ | ⟨h1, h2, h3, h4⟩
    · by_cases hl : stn xs[k] < stn e
      · left
        have hne : ¬ stn xs[k] = stn e := fun h => by rw [h] at hl; exact List.lt_irrefl _ hl
        refine ⟨by simp [setStep, h1, hb, hl], ?_, fun j h hj => ?_⟩
        · simp only [setStep, h1, hb, he]
          rw [if_neg (by simp [hl]), if_neg (by simp [hne]), h2, ht]
        · rcases Nat.lt_or_ge j k with h5 | h5
          · exact h3 j h h5
          · have : j = k := by omega
            subst this
            exact hl
      · right
        refine ⟨by simp [setStep, hb, hl], ⟨k, hkl, by omega, hl⟩, ?_, ?_⟩
        · simp only [setStep, h1, hb, he]
          rw [if_pos (by simp [hl]), h2, ht, List.map_append, List.map_append, List.map_append, List.map_cons, List.map_nil]
          by_cases hq : stn xs[k] = stn e
          · rw [if_pos (by simp [hq])]
            have hm : stn e ∈ (xs.take k).map stn ++ List.map stn [xs[k]] := by simp [hq]
            rw [ht, List.map_append] at hUk1
            rw [putS_has hUk1 hm]
            simp [hq]
          · rw [if_neg (by simp [hq])]
            have hgt : stn e < stn xs[k] := (str_lt_or_eq (List.not_lt.1 hl)).resolve_right fun h => hq h.symm
            rw [ht, List.map_append] at hUk1
            rw [putS_at hUk1 (fun z hz => ?_) (fun z hz => ?_)]
            · simp
            · obtain ⟨y, hy, rfl⟩ := List.mem_map.1 hz
              obtain ⟨i, hi, rfl⟩ := List.mem_iff_getElem.1 hy
              rw [List.getElem_take]
              exact h3 i (by rw [List.length_take] at hi; omega) (by rw [List.length_take] at hi; omega)
            · simp only [List.map_cons, List.map_nil, List.mem_cons, List.not_mem_nil, or_false] at hz
              rw [hz]
              exact hgt
        · intro z hz
          simp only [setStep, h1, hb, he] at hz
          rw [if_pos (by simp [hl]), h2, List.map_append, List.map_append, List.mem_append, List.mem_append] at hz
          rcases hz with (hz | hz) | hz
          · obtain ⟨y, hy, rfl⟩ := List.mem_map.1 hz
            obtain ⟨i, hi, rfl⟩ := List.mem_iff_getElem.1 hy
            rw [List.length_take] at hi
            exact .inr ⟨i, by omega, by omega, by rw [List.getElem_take]⟩
          · simp only [List.map_cons, List.map_nil, List.mem_cons, List.not_mem_nil, or_false] at hz
            exact .inl hz
          · split at hz
            · simp at hz
            · simp only [List.map_cons, List.map_nil, List.mem_cons, List.not_mem_nil, or_false] at hz
              exact .inr ⟨k, hkl, by omega, hz⟩
    · right
      obtain ⟨j0, hj0, hjk, hnl⟩ := h2
      have hgt : stn e < stn xs[k] := by
        have h5 := hU k hkl j0 hjk
        rcases str_lt_or_eq (List.not_lt.1 hnl) with h6 | h6
        · exact List.lt_trans h6 h5
        · rw [h6]; exact h5
      have hq : ¬ stn xs[k] = stn e := fun h => by rw [h] at hgt; exact List.lt_irrefl _ hgt
      refine ⟨by simp [setStep, h1], ⟨j0, hj0, by omega, hnl⟩, ?_, ?_⟩
      · simp only [setStep, h1, he]
        rw [if_neg (by simp), if_neg (by simp [hq]), List.map_append, h3, ht, List.map_append]
        refine up_unique ?_ (putS_up _ (by rw [← List.map_append, ← ht]; exact hUk1)) (fun z => ?_)
        · rw [Up, List.pairwise_append]
          refine ⟨putS_up _ hUk, by simp, fun a ha b hb2 => ?_⟩
          simp only [List.map_cons, List.map_nil, List.mem_cons, List.not_mem_nil, or_false] at hb2
          rw [hb2]
          rcases (putS_mem _ _ _).1 ha with h7 | h7
          · rw [h7]; exact hgt
          · obtain ⟨y, hy, rfl⟩ := List.mem_map.1 h7
            obtain ⟨i, hi, rfl⟩ := List.mem_iff_getElem.1 hy
            rw [List.getElem_take]
            rw [List.length_take] at hi
            exact hU k hkl i (by omega)
        · simp only [List.mem_append, putS_mem, or_assoc]
      · intro z hz
        simp only [setStep, h1, he] at hz
        rw [if_neg (by simp), if_neg (by simp [hq]), List.map_append, List.mem_append] at hz
        rcases hz with hz | hz
        · rcases h4 z hz with h7 | ⟨j, hj, h8, h9⟩
          · exact .inl h7
          · exact .inr ⟨j, hj, by omega, h9⟩
        · simp only [List.map_cons, List.map_nil, List.mem_cons, List.not_mem_nil, or_false] at hz
          exact .inr ⟨k, hkl, by omega, hz⟩
theorem setS_names {xs : List DSetting} {e : DSetting} (hU : Up (xs.map stn)) : (setS xs e).map stn = putS (xs.map stn) (stn e) := by
  have hU2 : ∀ (j : Nat) (hj : j < xs.length) (i : Nat) (hi : i < j), stn xs[i] < stn xs[j] := fun j hj i hi => by
    have := up_get hU hi (by simpa using hj)
    rw [List.getElem_map, List.getElem_map] at this
    exact this
  unfold setS
  rcases setTo_val (e := e) hU2 xs.length (Nat.le_refl _) with ⟨h1, h2, h3⟩ | ⟨h1, h2, h3, h4⟩
  · rw [if_neg (by simp [h1]), h2, List.take_length, List.map_append]
    have hU' : Up (xs.map stn ++ []) := by rw [List.append_nil]; exact hU
    have h5 := putS_at (x := stn e) hU' (fun z hz => by
      obtain ⟨y, hy, rfl⟩ := List.mem_map.1 hz
      obtain ⟨i, hi, rfl⟩ := List.mem_iff_getElem.1 hy
      exact h3 i hi hi) (fun z hz => by simp at hz)
    rw [List.append_nil] at h5
    rw [h5]
    rfl
  · rw [if_pos h1, h3, List.take_length]

end Go.Proofs.Ytjeklbhdngkngaa
