/- Changes of a state: pure. -/
import Derived.Test.YtjeklbhdngkngaaStSetM
import Derived.Test.YtjeklbhdngkngaaTChange
import Derived.Test.YtjeklbhdngkngaaISetting
import Derived.Test.YtjeklbhdngkngaaStEq
namespace Go.Proofs.Ytjeklbhdngkngaa
open Go.RowKit
set_option linter.unusedVariables false

def DChange.set (c : DChange) : DSetting := ⟨c.fName, c.fValue⟩
def chgB (c : DChange) : Bool := inB c.fKind 1 2 && setB c.set
def ChgTo (cs : List DChange) (k : Nat) : Prop := ∀ j (h : j < cs.length), j < k → chgB cs[j] = true
noncomputable def chgsB (cs : List DChange) : Bool := @decide (ChgTo cs cs.length) (Classical.propDecidable _)
theorem chgsB_iff {cs : List DChange} : chgsB cs = true ↔ ChgTo cs cs.length := by simp [chgsB]
theorem chgs_not {cs : List DChange} {k : Nat} (hk : k < cs.length) (h : chgB cs[k] = false) : chgsB cs = false := by
  cases hc : chgsB cs with
  | false => rfl
  | true => have := chgsB_iff.1 hc k hk hk; rw [h] at this; cases this
theorem ChgTo.succ {cs : List DChange} {k : Nat} (h : ChgTo cs k) (hk : k < cs.length) (h1 : chgB cs[k] = true) : ChgTo cs (k + 1) := fun j hj hjk => by
  rcases Nat.lt_or_ge j k with h3 | h3
  · exact h j hj h3
  · have e : j = k := by omega
    subst e; exact h1
theorem state_of {xs : List DSetting} (h1 : ∀ x ∈ xs, setB x = true) (h2 : Up (xs.map stn)) : StateTo xs xs.length := fun j hj _ => by
  refine ⟨h1 _ (List.getElem_mem hj), fun h0 => ?_⟩
  rw [less_iff]
  refine decide_eq_true ?_
  have h3 := List.pairwise_iff_getElem.1 h2 (j - 1) j (by simp; omega) (by simpa using hj) (by omega)
  rw [List.getElem_map, List.getElem_map] at h3
  exact h3
theorem up_state {xs : List DSetting} (h : StateTo xs xs.length) : Up (xs.map stn) := by
  refine List.pairwise_iff_getElem.2 fun i j hi hj hij => ?_
  rw [List.getElem_map, List.getElem_map]
  exact st_lt h j (by simpa using hj) i hij
theorem mem_state {xs : List DSetting} (h : StateTo xs xs.length) : ∀ x ∈ xs, setB x = true := fun x hx => by
  obtain ⟨j, hj, rfl⟩ := List.mem_iff_getElem.1 hx
  exact (h j hj hj).1
-- the reference's set, with the place known
theorem setTo_low {xs : List DSetting} {e : DSetting} : ∀ {k : Nat}, k ≤ xs.length → (∀ j (h : j < xs.length), j < k → stn xs[j] < stn e) → setTo xs e k = (xs.take k, false)
  | 0, _, _ => rfl
  | k + 1, hk, h => by
    have hl := h k (by omega) (by omega)
    have hne : ¬ stn xs[k] = stn e := fun h => by rw [h] at hl; exact List.lt_irrefl _ hl
    have hb : Op.bytesLess xs[k].fName.toList e.fName.toList = true := by rw [less_iff]; exact decide_eq_true hl
    have he : ¬ (xs[k].fName.toList == e.fName.toList) = true := by
      rw [Lib.toList_data, Lib.toList_data, beq_iff_eq]; exact hne
    rw [setTo_succ (by omega), setTo_low (by omega) (fun j hj hjk => h j hj (by omega)), List.take_succ_eq_append_getElem (by omega)]
    simp only [setStep, hb]
    rw [if_neg (by simp), if_neg he]
    rfl
theorem setTo_high {xs P : List DSetting} {e : DSetting} {i : Nat} (h0 : setTo xs e i = (P, true)) (h : ∀ j (h : j < xs.length), i ≤ j → stn e < stn xs[j]) : ∀ {k : Nat}, i ≤ k → k ≤ xs.length → setTo xs e k = (P ++ (xs.drop i).take (k - i), true)
  | 0, hi, _ => by
    have : i = 0 := by omega
    subst this
    rw [h0]; simp
  | k + 1, hi, hk => by
    rcases Nat.lt_or_ge k i with hlt | hge
    · have : i = k + 1 := by omega
      subst this
      rw [h0]; simp
    · have hl := h k (by omega) hge
      have hne : ¬ stn xs[k] = stn e := fun h => by rw [h] at hl; exact List.lt_irrefl _ hl
      have he : ¬ (xs[k].fName.toList == e.fName.toList) = true := by
        rw [Lib.toList_data, Lib.toList_data, beq_iff_eq]; exact hne
      have e1 : (xs.drop i).take (k + 1 - i) = (xs.drop i).take (k - i) ++ [xs[k]] := by
        rw [show k + 1 - i = (k - i) + 1 by omega, List.take_succ_eq_append_getElem (by rw [List.length_drop]; omega), List.getElem_drop]
        congr 2
        have : i + (k - i) = k := by omega
        simp only [this]
      rw [setTo_succ (by omega), setTo_high h0 h hge (by omega), e1]
      simp only [setStep]
      rw [if_neg (by simp), if_neg he, List.append_assoc]
      rfl
theorem setS_found {xs : List DSetting} {e : DSetting} {i : Nat} (hi : i < xs.length) (h1 : ∀ j (h : j < xs.length), j < i → stn xs[j] < stn e) (h2 : stn xs[i] = stn e) (h3 : ∀ j (h : j < xs.length), i < j → stn e < stn xs[j]) : setS xs e = xs.set i e := by
  have hb : Op.bytesLess xs[i].fName.toList e.fName.toList = false := by rw [less_iff]; refine decide_eq_false ?_; show ¬ stn xs[i] < stn e; rw [h2]; exact List.lt_irrefl _
  have he : (xs[i].fName.toList == e.fName.toList) = true := by rw [Lib.toList_data, Lib.toList_data, beq_iff_eq]; exact h2
  have h0 : setTo xs e (i + 1) = (xs.take i ++ [e], true) := by
    rw [setTo_succ hi, setTo_low (by omega) h1]
    simp only [setStep, hb]
    rw [if_pos (by simp), if_pos he]
    simp
  have h4 := setTo_high h0 (fun j hj hij => h3 j hj (by omega)) (k := xs.length) (by omega) (Nat.le_refl _)
  rw [setS, h4, if_pos rfl, List.set_eq_take_append_cons_drop, if_pos hi, List.take_of_length_le (l := xs.drop (i + 1)) (by rw [List.length_drop]; exact Nat.le_refl _), List.append_assoc]
  rfl
theorem setS_miss {xs : List DSetting} {e : DSetting} {i : Nat} (hi : i ≤ xs.length) (h1 : ∀ j (h : j < xs.length), j < i → stn xs[j] < stn e) (h3 : ∀ j (h : j < xs.length), i ≤ j → stn e < stn xs[j]) : setS xs e = insSetting xs i e := by
  rcases Nat.lt_or_ge i xs.length with hlt | hge
  · have hl := h3 i hlt (Nat.le_refl _)
    have hb : Op.bytesLess xs[i].fName.toList e.fName.toList = false := by rw [less_iff]; refine decide_eq_false ?_; exact fun h => List.lt_irrefl _ (List.lt_trans h hl)
    have he : ¬ (xs[i].fName.toList == e.fName.toList) = true := by rw [Lib.toList_data, Lib.toList_data, beq_iff_eq]; exact fun h => by rw [show stn xs[i] = stn e from h] at hl; exact List.lt_irrefl _ hl
    have h0 : setTo xs e (i + 1) = (xs.take i ++ [e] ++ [xs[i]], true) := by
      rw [setTo_succ hlt, setTo_low (by omega) h1]
      simp only [setStep, hb]
      rw [if_pos (by simp), if_neg he]
      simp
    have h4 := setTo_high h0 (fun j hj hij => h3 j hj (by omega)) (k := xs.length) (by omega) (Nat.le_refl _)
    rw [setS, h4, if_pos rfl, insSetting, List.drop_eq_getElem_cons hlt, List.take_of_length_le (l := xs.drop (i + 1)) (by rw [List.length_drop]; exact Nat.le_refl _)]
    simp
  · have : i = xs.length := by omega
    subst this
    rw [setS, setTo_low (Nat.le_refl _) h1, if_neg (by simp), insSetting, List.take_length, List.drop_length, List.append_nil]

/-- one change -/
def applyC (xs : List DSetting) (c : DChange) : List DSetting × Int :=
  if c.fKind = 1 then (if 24 < (setS xs c.set).length then ([], 5) else (setS xs c.set, 0))
  else match xs.findIdx? (fun x => decide (stn x = stn c.set)) with
    | none => ([], 3)
    | some i => if eqF (xs.getD i noSet).fName c.fName (xs.getD i noSet).fValue c.fValue = true then (xs.eraseIdx i, 0) else ([], 6)
theorem getD_at {xs : List DSetting} {i : Nat} (hi : i < xs.length) : xs.getD i noSet = xs[i] := by simp [List.getD, List.getElem?_eq_getElem hi]
theorem applyC_set {xs : List DSetting} {c : DChange} {i : Nat} (hk : c.fKind = 1) (hn : xs.length ≤ 24) (hs : StateTo xs xs.length) (hi : i < xs.length) (h2 : stn xs[i] = c.fName.data.toList) : applyC xs c = (xs.set i c.set, 0) := by
  have e := setS_found (e := c.set) hi (fun j hj hji => by have := st_lt hs i hi j hji; rw [h2] at this; exact this) h2 (fun j hj hij => by have := st_lt hs j hj i hij; rw [h2] at this; exact this)
  rw [applyC, if_pos hk, e, if_neg (by rw [List.length_set]; omega)]
theorem applyC_full {xs : List DSetting} {c : DChange} {i : Nat} (hk : c.fKind = 1) (hn : xs.length = 24) (hi : i ≤ xs.length) (h1 : ∀ j (h : j < xs.length), j < i → stn xs[j] < c.fName.data.toList) (h3 : ∀ j (h : j < xs.length), i ≤ j → c.fName.data.toList < stn xs[j]) : applyC xs c = ([], 5) := by
  have e := setS_miss (e := c.set) hi h1 h3
  rw [applyC, if_pos hk, e, if_pos (by rw [insSetting_length hi]; omega)]
theorem applyC_ins {xs : List DSetting} {c : DChange} {i : Nat} (hk : c.fKind = 1) (hn : xs.length < 24) (hi : i ≤ xs.length) (h1 : ∀ j (h : j < xs.length), j < i → stn xs[j] < c.fName.data.toList) (h3 : ∀ j (h : j < xs.length), i ≤ j → c.fName.data.toList < stn xs[j]) : applyC xs c = (insSetting xs i c.set, 0) := by
  have e := setS_miss (e := c.set) hi h1 h3
  rw [applyC, if_pos hk, e, if_neg (by rw [insSetting_length hi]; omega)]
theorem applyC_none {xs : List DSetting} {c : DChange} (hk : c.fKind ≠ 1) (h : ∀ j (h : j < xs.length), stn xs[j] ≠ c.fName.data.toList) : applyC xs c = ([], 3) := by
  have e : xs.findIdx? (fun x => decide (stn x = stn c.set)) = none := by
    rw [List.findIdx?_eq_none_iff]
    intro x hx
    obtain ⟨j, hj, rfl⟩ := List.mem_iff_getElem.1 hx
    exact decide_eq_false (h j hj)
  rw [applyC, if_neg hk, e]
theorem applyC_at {xs : List DSetting} {c : DChange} {i : Nat} (hk : c.fKind ≠ 1) (hi : i < xs.length) (h1 : ∀ j (h : j < xs.length), j < i → stn xs[j] ≠ c.fName.data.toList) (h2 : stn xs[i] = c.fName.data.toList) : applyC xs c = if eqF xs[i].fName c.fName xs[i].fValue c.fValue = true then (xs.eraseIdx i, 0) else ([], 6) := by
  have e : xs.findIdx? (fun x => decide (stn x = stn c.set)) = some i := by
    rw [List.findIdx?_eq_some_iff_getElem]
    exact ⟨hi, decide_eq_true h2, fun j hj => by
      rw [decide_eq_true_iff]
      exact h1 j (by omega) hj⟩
  rw [applyC, if_neg hk, e]
  simp only [getD_at hi]
theorem applyC_bad {xs : List DSetting} {c : DChange} (h : (applyC xs c).2 ≠ 0) : (applyC xs c).1 = [] := by
  unfold applyC at h ⊢
  split
  · rename_i h1
    rw [if_pos h1] at h
    split
    · rfl
    · rename_i h2
      rw [if_neg h2] at h
      exact absurd rfl h
  · rename_i h1
    rw [if_neg h1] at h
    split
    · rfl
    · rename_i i hi
      rw [hi] at h
      simp only at h
      split
      · rename_i h2
        rw [if_pos h2] at h
        exact absurd rfl h
      · rfl
theorem applyC_good {xs : List DSetting} {c : DChange} (hs : StateTo xs xs.length) (hn : xs.length ≤ 24) (hc : chgB c = true) (h : (applyC xs c).2 = 0) : StateTo (applyC xs c).1 (applyC xs c).1.length ∧ (applyC xs c).1.length ≤ 24 := by
  have hcs : setB c.set = true := by simp only [chgB, Bool.and_eq_true] at hc; exact hc.2
  have hm := mem_state hs
  have hU := up_state hs
  unfold applyC at h ⊢
  by_cases hk : c.fKind = 1
  · rw [if_pos hk] at h ⊢
    by_cases hl : 24 < (setS xs c.set).length
    · rw [if_pos hl] at h; cases h
    · rw [if_neg hl]
      show StateTo (setS xs c.set) (setS xs c.set).length ∧ (setS xs c.set).length ≤ 24
      refine ⟨state_of ?_ (by rw [setS_names hU]; exact putS_up _ hU), by omega⟩
      by_cases hf : ∃ (i : Nat) (hi : i < xs.length), stn xs[i] = stn c.set
      · obtain ⟨i, hi, h2⟩ := hf
        rw [setS_found hi (fun j hj hji => by have := st_lt hs i hi j hji; rw [h2] at this; exact this) h2 (fun j hj hij => by have := st_lt hs j hj i hij; rw [h2] at this; exact this)]
        intro x hx
        rcases List.mem_or_eq_of_mem_set hx with hx | rfl
        · exact hm x hx
        · exact hcs
      · have hi : (xs.takeWhile (fun x => decide (stn x < stn c.set))).length ≤ xs.length := (List.takeWhile_prefix _).length_le
        have hp := List.takeWhile_prefix (l := xs) (fun x => decide (stn x < stn c.set))
        obtain ⟨i, hie⟩ : ∃ i, i = (xs.takeWhile (fun x => decide (stn x < stn c.set))).length := ⟨_, rfl⟩
        have h1 : ∀ j (h : j < xs.length), j < i → stn xs[j] < stn c.set := fun j hj hji => by
          have hg := hp.getElem (i := j) (by omega)
          have := List.all_takeWhile (l := xs) (p := fun x => decide (stn x < stn c.set))
          have h5 := List.all_eq_true.1 this _ (List.getElem_mem (by omega : j < _))
          rw [hg] at h5
          exact of_decide_eq_true h5
        have h3 : ∀ j (h : j < xs.length), i ≤ j → stn c.set < stn xs[j] := fun j hj hij => by
          have hni : i < xs.length := by omega
          have h6 : ¬ stn xs[i] < stn c.set := by
            have e : xs = xs.takeWhile (fun x => decide (stn x < stn c.set)) ++ xs.dropWhile (fun x => decide (stn x < stn c.set)) := (List.takeWhile_append_dropWhile).symm
            cases hd : xs.dropWhile (fun x => decide (stn x < stn c.set)) with
            | nil => rw [hd, List.append_nil] at e; have := congrArg List.length e; omega
            | cons y ys =>
              have hy := List.head_dropWhile_not (fun x => decide (stn x < stn c.set)) (l := xs) (by rw [hd]; simp)
              have hxi : xs[i] = y := by
                have : xs[i]? = some y := by
                  rw [e, hd, List.getElem?_append_right (by omega)]
                  simp [hie]
                rw [List.getElem?_eq_getElem hni] at this
                injection this
              rw [hxi]
              simp only [hd, List.head_cons] at hy
              exact of_decide_eq_false hy
          have h7 : stn c.set < stn xs[i] := (str_lt_or_eq (List.not_lt.1 h6)).resolve_right fun e => hf ⟨i, hni, e.symm⟩
          rcases Nat.lt_or_ge i j with h8 | h8
          · exact List.lt_trans h7 (st_lt hs j hj i h8)
          · have : i = j := by omega
            subst this
            exact h7
        rw [setS_miss (by omega) h1 h3]
        intro x hx
        simp only [insSetting, List.mem_append, List.mem_singleton] at hx
        rcases hx with (hx | rfl) | hx
        · exact hm x (List.mem_of_mem_take hx)
        · exact hcs
        · exact hm x (List.mem_of_mem_drop hx)
  · rw [if_neg hk] at h ⊢
    split
    · rename_i h2
      rw [h2] at h
      cases h
    · rename_i i h2
      rw [h2] at h
      simp only at h
      split
      · refine ⟨state_of (fun x hx => hm x (List.mem_of_mem_eraseIdx hx)) ?_, Nat.le_trans (List.eraseIdx_sublist _ _).length_le hn⟩
        exact List.Pairwise.sublist ((List.eraseIdx_sublist _ _).map _) hU
      · rename_i h3
        rw [if_neg h3] at h
        cases h
def applyN (xs : List DSetting) (cs : List DChange) : Nat → List DSetting × Int
  | 0 => (xs, 0)
  | k + 1 => match cs[k]? with
    | some c => if (applyN xs cs k).2 = 0 then applyC (applyN xs cs k).1 c else applyN xs cs k
    | none => applyN xs cs k
theorem applyN_step {xs : List DSetting} {cs : List DChange} {k : Nat} (h : k < cs.length) (h0 : (applyN xs cs k).2 = 0) : applyN xs cs (k + 1) = applyC (applyN xs cs k).1 cs[k] := by simp only [applyN, List.getElem?_eq_getElem h]; rw [if_pos h0]
theorem applyN_stop {xs : List DSetting} {cs : List DChange} {k : Nat} (h0 : (applyN xs cs k).2 ≠ 0) : ∀ {m : Nat}, k ≤ m → applyN xs cs m = applyN xs cs k
  | 0, h => by
    have : k = 0 := by omega
    rw [this]
  | m + 1, h => by
    rcases Nat.lt_or_ge m k with h1 | h1
    · have : k = m + 1 := by omega
      rw [this]
    · have ih := applyN_stop (m := m) h0 h1
      rw [applyN]
      split
      · rw [ih, if_neg h0]
      · exact ih
theorem applyN_fail {xs : List DSetting} {cs : List DChange} {k : Nat} {l : List DSetting} {e : Int} (hk : k < cs.length) (h0 : applyN xs cs k = (l, 0)) (he : (applyC l cs[k]).2 = e) (hne : e ≠ 0) : applyN xs cs cs.length = ([], e) := by
  have h1 : applyN xs cs (k + 1) = applyC l cs[k] := by rw [applyN_step hk (by rw [h0]), h0]
  rw [applyN_stop (k := k + 1) (by rw [h1, he]; exact hne) (by omega), h1]
  exact Prod.ext (applyC_bad (by rw [he]; exact hne)) he
noncomputable def fApply (xs : List DSetting) (cs : List DChange) : List DSetting × Int :=
  if stateB xs = false then ([], 1) else if chgsB cs = false then ([], 1) else applyN xs cs cs.length
theorem applyN_good {xs : List DSetting} {cs : List DChange} (hs : StateTo xs xs.length) (hn : xs.length ≤ 24) (hc : ChgTo cs cs.length) : ∀ k, k ≤ cs.length → (applyN xs cs k).2 = 0 → StateTo (applyN xs cs k).1 (applyN xs cs k).1.length ∧ (applyN xs cs k).1.length ≤ 24
  | 0, _, _ => ⟨hs, hn⟩
  | k + 1, hk, h => by
    by_cases h0 : (applyN xs cs k).2 = 0
    · obtain ⟨h1, h2⟩ := applyN_good hs hn hc k (by omega) h0
      rw [applyN_step (by omega) h0] at h ⊢
      exact applyC_good h1 h2 (hc k (by omega) (by omega)) h
    · rw [applyN_stop h0 (Nat.le_succ k)] at h
      exact absurd h h0
theorem fApply_small (xs : List DSetting) (cs : List DChange) : (fApply xs cs).1.length ≤ 24 := by
  unfold fApply
  split
  · simp
  · rename_i h1
    split
    · simp
    · rename_i h2
      obtain ⟨h3, h4⟩ := stateB_iff.1 (by simpa using h1)
      have h5 := chgsB_iff.1 (by simpa using h2)
      by_cases h0 : (applyN xs cs cs.length).2 = 0
      · exact (applyN_good h3 h4 h5 _ (Nat.le_refl _) h0).2
      · have : ∀ k, k ≤ cs.length → (applyN xs cs k).2 ≠ 0 → (applyN xs cs k).1 = [] := by
          intro k
          induction k with
          | zero => intro _ h; exact absurd rfl h
          | succ k ih =>
            intro hk h
            by_cases h6 : (applyN xs cs k).2 = 0
            · rw [applyN_step (by omega) h6] at h ⊢
              exact applyC_bad h
            · rw [applyN_stop h6 (Nat.le_succ k)]
              exact ih (by omega) h6
        rw [this _ (Nat.le_refl _) h0]
        simp
end Go.Proofs.Ytjeklbhdngkngaa
