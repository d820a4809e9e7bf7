/- Goods: the place of a name; what PutGood answers. -/
import Derived.Test.YtjeklbhdngkngaaVGood
import Derived.Test.YtjeklbhdngkngaaIGood
import Derived.Test.YtjeklbhdngkngaaPut
namespace Go.Proofs.Ytjeklbhdngkngaa
open Go.RowKit
set_option linter.unusedVariables false

def gn (x : DGood) : Str := x.fId.data.toList
theorem gn_lt {xs : List DGood} (h : GoodsTo xs xs.length) : ∀ (j : Nat) (hj : j < xs.length) (i : Nat) (hi : i < j), gn xs[i] < gn xs[j]
  | 0, _, _, hi => absurd hi (Nat.not_lt_zero _)
  | j + 1, hj, i, hi => by
    have h1 := (h (j + 1) hj hj).2 (by omega)
    rw [less_iff] at h1
    have h2 : gn xs[j] < gn xs[j + 1] := of_decide_eq_true h1
    rcases Nat.lt_or_ge i j with h3 | h3
    · exact List.lt_trans (gn_lt h j (by omega) i h3) h2
    · have : i = j := by omega
      subst this
      exact h2
theorem goods_iff {xs : List DGood} : GoodsTo xs xs.length ↔ (∀ x ∈ xs, goodD x = true) ∧ xs.Pairwise (fun a b => gn a < gn b) := by
  constructor
  · intro h
    refine ⟨fun x hx => ?_, List.pairwise_iff_getElem.2 fun i j hi hj hij => gn_lt h j hj i hij⟩
    obtain ⟨j, hj, rfl⟩ := List.mem_iff_getElem.1 hx
    exact (h j hj hj).1
  · rintro ⟨h1, h2⟩ j hj _
    refine ⟨h1 _ (List.getElem_mem hj), fun h0 => ?_⟩
    rw [less_iff]
    exact decide_eq_true (List.pairwise_iff_getElem.1 h2 (j - 1) j (by omega) hj (by omega))
/-- how many names come before z -/
def upG (xs : List DGood) (z : Str) : Nat := (xs.takeWhile (fun y => decide (gn y < z))).length
theorem upG_at {z : Str} : ∀ {xs : List DGood} {k : Nat}, (∀ j (h : j < xs.length), j < k → gn xs[j] < z) → k ≤ xs.length → (∀ h : k < xs.length, ¬ gn xs[k] < z) → upG xs z = k
  | [], k, _, hk, _ => by simp at hk; subst hk; rfl
  | y :: r, 0, _, _, h2 => by
    have := h2 (by simp)
    simp at this
    simp [upG, this]
  | y :: r, k + 1, h1, hk, h2 => by
    have h0 := h1 0 (by simp) (by omega)
    simp at h0
    have ih := upG_at (z := z) (xs := r) (k := k) (fun j h hj => by have := h1 (j + 1) (by simpa using h) (by omega); simpa using this) (by simpa using hk) (fun h => by have := h2 (by simpa using h); simpa using this)
    simp [upG, h0] at ih ⊢
    exact ih
/-- the good of a name, if it is there -/
def findG (xs : List DGood) (z : Str) : Option DGood := match xs[upG xs z]? with | some y => if gn y = z then some y else none | none => none
theorem findG_yes {xs : List DGood} {z : Str} {k : Nat} (hk : k < xs.length) (h1 : ∀ j (h : j < xs.length), j < k → gn xs[j] < z) (he : gn xs[k] = z) : upG xs z = k ∧ findG xs z = some xs[k] := by
  have h := upG_at h1 (by omega) (fun _ => by rw [he]; exact List.lt_irrefl _)
  refine ⟨h, ?_⟩
  unfold findG
  rw [h, List.getElem?_eq_getElem hk]
  exact if_pos he
theorem findG_no {xs : List DGood} {z : Str} {k : Nat} (hk : k ≤ xs.length) (h1 : ∀ j (h : j < xs.length), j < k → gn xs[j] < z) (h2 : ∀ j (h : j < xs.length), k ≤ j → z < gn xs[j]) : upG xs z = k ∧ findG xs z = none := by
  have h := upG_at h1 hk (fun hl hlt => List.lt_irrefl _ (List.lt_trans hlt (h2 k hl (Nat.le_refl _))))
  refine ⟨h, ?_⟩
  unfold findG
  rw [h]
  cases hx : xs[k]? with
  | none => rfl
  | some y =>
    obtain ⟨hl, rfl⟩ := List.getElem?_eq_some_iff.1 hx
    exact if_neg fun e => by have := h2 k hl (Nat.le_refl _); rw [e] at this; exact List.lt_irrefl _ this
def addG (x : DGood) (n : Int) : DGood := ⟨x.fId, x.fCount + n, x.fLeast, x.fPrice⟩
noncomputable def fPutGood (xs : List DGood) (x : DGood) : List DGood × Int :=
  if (goodsB xs && goodD x) = false then ([], 1) else match findG xs (gn x) with
  | some y => if x.fCount + y.fCount ≤ 100000 then (xs.set (upG xs (gn x)) (addG x y.fCount), 0) else ([], 5)
  | none => if xs.length = 16 then ([], 5) else (insGood xs (upG xs (gn x)) x, 0)
theorem good_in {x : DGood} (h : goodD x = true) : nameB x.fId = true ∧ (0 ≤ x.fCount ∧ x.fCount ≤ 100000) ∧ (0 ≤ x.fLeast ∧ x.fLeast ≤ 100000) ∧ (0 ≤ x.fPrice ∧ x.fPrice ≤ 10000000) := by
  unfold goodD goodB at h
  simp only [Bool.and_eq_true, inB_iff] at h
  exact h
theorem good_add {x y : DGood} (hx : goodD x = true) (hy : goodD y = true) : goodD (addG x y.fCount) = decide (x.fCount + y.fCount ≤ 100000) := by
  have h1 := good_in hx
  have h2 := good_in hy
  unfold goodD goodB addG
  rw [Bool.eq_iff_iff, decide_eq_true_iff]
  simp only [Bool.and_eq_true, inB_iff]
  constructor
  · intro h; omega
  · intro h; exact ⟨h1.1, by omega, h1.2.2.1, h1.2.2.2⟩
theorem goods_set {xs : List DGood} {y : DGood} {k : Nat} (h : goodsB xs = true) (hk : k < xs.length) (he : gn xs[k] = gn y) (hy : goodD y = true) : goodsB (xs.set k y) = true := by
  obtain ⟨h1, h2⟩ := goodsB_iff.1 h
  obtain ⟨h3, h4⟩ := goods_iff.1 h1
  refine goodsB_iff.2 ⟨goods_iff.2 ⟨fun z hz => ?_, ?_⟩, by rw [List.length_set]; exact h2⟩
  · rcases List.mem_or_eq_of_mem_set hz with h5 | h5
    · exact h3 z h5
    · rw [h5]; exact hy
  · refine List.pairwise_iff_getElem.2 fun i j hi hj hij => ?_
    rw [List.length_set] at hi hj
    have e : ∀ q (hq : q < (xs.set k y).length), gn (xs.set k y)[q] = gn (xs[q]'(by rw [List.length_set] at hq; exact hq)) := fun q hq => by
      rw [List.getElem_set]
      split
      · rename_i e; subst e; exact he.symm
      · rfl
    rw [e, e]
    exact List.pairwise_iff_getElem.1 h4 i j hi hj hij
theorem goods_over {xs : List DGood} {y : DGood} {k : Nat} (hk : k < xs.length) (hy : goodD y = false) : goodsB (xs.set k y) = false := by
  have h : k < (xs.set k y).length := by rw [List.length_set]; exact hk
  exact noGoods_one h (by rw [List.getElem_set_self]; exact hy)
theorem goods_ins {xs : List DGood} {x : DGood} {k : Nat} (h : goodsB xs = true) (hx : goodD x = true) (hk : k ≤ xs.length) (h1 : ∀ j (h : j < xs.length), j < k → gn xs[j] < gn x) (h2 : ∀ j (h : j < xs.length), k ≤ j → gn x < gn xs[j]) : goodsB (insGood xs k x) = decide (xs.length < 16) := by
  obtain ⟨g1, g2⟩ := goodsB_iff.1 h
  obtain ⟨g3, g4⟩ := goods_iff.1 g1
  have hT : GoodsTo (insGood xs k x) (insGood xs k x).length := by
    refine goods_iff.2 ⟨fun z hz => ?_, ?_⟩
    · unfold insGood at hz
      simp only [List.mem_append, List.mem_cons, List.not_mem_nil, or_false] at hz
      rcases hz with (h5 | h5) | h5
      · exact g3 z (List.mem_of_mem_take h5)
      · rw [h5]; exact hx
      · exact g3 z (List.mem_of_mem_drop h5)
    · unfold insGood
      rw [List.pairwise_append, List.pairwise_append]
      refine ⟨⟨g4.sublist (List.take_sublist _ _), List.pairwise_singleton _ _, fun a ha b hb => ?_⟩, g4.sublist (List.drop_sublist _ _), fun a ha b hb => ?_⟩
      · obtain ⟨i, hi, rfl⟩ := List.mem_iff_getElem.1 ha
        have hb2 : b = x := by simpa using hb
        subst hb2
        rw [List.length_take] at hi
        rw [List.getElem_take]
        exact h1 i (by omega) (by omega)
      · obtain ⟨i, hi, rfl⟩ := List.mem_iff_getElem.1 hb
        rw [List.length_drop] at hi
        rw [List.getElem_drop]
        have hb3 := h2 (k + i) (by omega) (by omega)
        rw [List.mem_append] at ha
        rcases ha with ha | ha
        · obtain ⟨q, hq, rfl⟩ := List.mem_iff_getElem.1 ha
          rw [List.length_take] at hq
          rw [List.getElem_take]
          exact List.lt_trans (h1 q (by omega) (by omega)) hb3
        · have hb2 : a = x := by simpa using ha
          subst hb2
          exact hb3
  rw [Bool.eq_iff_iff, goodsB_iff, decide_eq_true_iff, insGood_length hk]
  constructor
  · intro h; omega
  · intro h; exact ⟨by rw [insGood_length hk] at hT; exact hT, by omega⟩
theorem gn_before {xs : List DGood} (h : GoodsTo xs xs.length) {k : Nat} (hk : k < xs.length) {z : Str} (he : gn xs[k] = z) : ∀ j (hj : j < xs.length), j < k → gn xs[j] < z := fun j hj hjk => by
  rw [← he]
  exact gn_lt h k hk j hjk
theorem fPutGood_small (xs : List DGood) (x : DGood) : (fPutGood xs x).1.length ≤ 17 := by
  unfold fPutGood
  split
  · simp
  · rename_i h
    have h1 : goodsB xs = true := by
      cases e : goodsB xs
      · rw [e] at h; simp at h
      · rfl
    have h2 := (goodsB_iff.1 h1).2
    split
    · split
      · rw [List.length_set]; omega
      · simp
    · split
      · simp
      · have h3 : upG xs (gn x) ≤ xs.length := (List.takeWhile_sublist _).length_le
        rw [insGood_length h3]; omega

end Go.Proofs.Ytjeklbhdngkngaa
