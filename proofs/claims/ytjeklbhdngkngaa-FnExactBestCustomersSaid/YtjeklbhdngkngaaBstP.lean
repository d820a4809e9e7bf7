/- The customers who spent most: the unused names, the best of them. No program in sight. -/
import Derived.Test.YtjeklbhdngkngaaBstM
namespace Go.Proofs.Ytjeklbhdngkngaa
open Go.RowKit
set_option linter.unusedVariables false
section
variable {α : Type}
/-- the elements whose flag is down -/
def unU (F : List α) (us : List Bool) : List α := ((F.zip us).filter (fun p => !p.2)).map Prod.fst
theorem unU_nil (us : List Bool) : unU ([] : List α) us = [] := rfl
theorem unU_cons (x : α) (F : List α) (u : Bool) (us : List Bool) : unU (x :: F) (u :: us) = (if u then unU F us else x :: unU F us) := by
  unfold unU
  rw [List.zip_cons_cons]
  cases u <;> simp
theorem unU_init : ∀ F : List α, unU F (List.replicate F.length false) = F
  | [] => rfl
  | x :: F => by rw [List.length_cons, List.replicate_succ, unU_cons, unU_init F]; rfl
theorem unU_mem : ∀ {F : List α} {us : List Bool} {y : α}, y ∈ unU F us → ∃ j : Nat, F[j]? = some y ∧ us[j]? = some false
  | [], us, y, h => by rw [unU_nil] at h; cases h
  | x :: F, [], y, h => by simp [unU] at h
  | x :: F, u :: us, y, h => by
    rw [unU_cons] at h
    cases u
    · rcases List.mem_cons.1 (by simpa using h) with rfl | h
      · exact ⟨0, rfl, rfl⟩
      · obtain ⟨j, h1, h2⟩ := unU_mem h
        exact ⟨j + 1, h1, h2⟩
    · obtain ⟨j, h1, h2⟩ := unU_mem (by simpa using h)
      exact ⟨j + 1, h1, h2⟩
/-- split at one whose flag is down; and the same with its flag up -/
theorem unU_split : ∀ {F : List α} {us : List Bool} {b : Nat} {x : α}, F[b]? = some x → us[b]? = some false → unU F us = unU (F.take b) (us.take b) ++ x :: unU (F.drop (b + 1)) (us.drop (b + 1)) ∧ unU F (us.set b true) = unU (F.take b) (us.take b) ++ unU (F.drop (b + 1)) (us.drop (b + 1))
  | [], _, _, _, h, _ => by cases h
  | _ :: _, [], _, _, _, h => by cases h
  | y :: F, u :: us, 0, x, h, h2 => by
    simp only [List.getElem?_cons_zero, Option.some.injEq] at h h2
    subst h h2
    refine ⟨?_, ?_⟩
    · rw [unU_cons]; rfl
    · rw [List.set_cons_zero, unU_cons]; rfl
  | y :: F, u :: us, b + 1, x, h, h2 => by
    simp only [List.getElem?_cons_succ] at h h2
    obtain ⟨h3, h4⟩ := unU_split h h2
    rw [List.set_cons_succ, unU_cons, unU_cons, List.take_succ_cons, List.take_succ_cons, unU_cons, h3, h4, List.drop_succ_cons, List.drop_succ_cons]
    cases u <;> simp
/-- b is the first of the best among the first i -/
def BestAt (key : α → Int) (F : List α) (us : List Bool) (i b : Nat) : Prop := ∃ x, (F[b]? = some x ∧ us[b]? = some false) ∧ b < i ∧ ∀ (j : Nat) (y : α), j < i → us[j]? = some false → F[j]? = some y → key x ≤ key y ∧ (j < b → key x < key y)
theorem BestAt.pick {key : α → Int} {F : List α} {us : List Bool} {b : Nat} {x : α} (h : BestAt key F us F.length b) (hx : F[b]? = some x) : srtK key (unU F us) = x :: srtK key (unU F (us.set b true)) := by
  obtain ⟨x', ⟨h1, h2⟩, h3, h4⟩ := h
  rw [hx] at h1
  injection h1 with h1
  subst h1
  obtain ⟨e1, e2⟩ := unU_split hx h2
  rw [e1, e2]
  refine srtK_pick (fun y hy => ?_) (fun y hy => ?_)
  · obtain ⟨j, g1, g2⟩ := unU_mem hy
    rw [List.getElem?_take] at g1 g2
    split at g1
    · rename_i hj
      rw [if_pos hj] at g2
      exact (h4 j y (by omega) g2 g1).2 hj
    · cases g1
  · obtain ⟨j, g1, g2⟩ := unU_mem hy
    rw [List.getElem?_drop] at g1 g2
    have hl := (List.getElem?_eq_some_iff.1 g1).1
    exact (h4 _ y hl g2 g1).1
theorem BestAt.keep {key : α → Int} {F : List α} {us : List Bool} {i b : Nat} (h : BestAt key F us i b) (h2 : ∀ x y, F[b]? = some x → F[i]? = some y → us[i]? = some false → key x ≤ key y) : BestAt key F us (i + 1) b := by
  obtain ⟨x, h1, h3, h4⟩ := h
  refine ⟨x, h1, by omega, fun j y hj hu hy => ?_⟩
  rcases Nat.lt_or_ge j i with h5 | h5
  · exact h4 j y h5 hu hy
  · have e : j = i := by omega
    subst e
    exact ⟨h2 x y h1.1 hy hu, fun h6 => by omega⟩
theorem BestAt.next {key : α → Int} {F : List α} {us : List Bool} {i b : Nat} {x z : α} (h : BestAt key F us i b) (hx : F[b]? = some x) (hz : F[i]? = some z) (hu : us[i]? = some false) (hk : key z < key x) : BestAt key F us (i + 1) i := by
  obtain ⟨x', ⟨h1, h2⟩, h3, h4⟩ := h
  rw [hx] at h1
  injection h1 with h1
  subst h1
  refine ⟨z, ⟨hz, hu⟩, by omega, fun j y hj hu2 hy => ?_⟩
  rcases Nat.lt_or_ge j i with h5 | h5
  · have := (h4 j y h5 hu2 hy).1
    exact ⟨by omega, fun _ => by omega⟩
  · have e : j = i := by omega
    subst e
    rw [hz] at hy
    injection hy with hy
    subst hy
    exact ⟨Int.le_refl _, fun h6 => by omega⟩
/-- none of the first i is unused -/
def NoneAt (us : List Bool) (i : Nat) : Prop := ∀ j : Nat, j < i → us[j]? ≠ some false
theorem NoneAt.first {key : α → Int} {F : List α} {us : List Bool} {i : Nat} {z : α} (h : NoneAt us i) (hz : F[i]? = some z) (hu : us[i]? = some false) : BestAt key F us (i + 1) i := by
  refine ⟨z, ⟨hz, hu⟩, by omega, fun j y hj hu2 hy => ?_⟩
  rcases Nat.lt_or_ge j i with h5 | h5
  · exact absurd hu2 (h j h5)
  · have e : j = i := by omega
    subst e
    rw [hz] at hy
    injection hy with hy
    subst hy
    exact ⟨Int.le_refl _, fun h6 => by omega⟩
theorem NoneAt.succ {us : List Bool} {i : Nat} (h : NoneAt us i) (hu : us[i]? = some true) : NoneAt us (i + 1) := fun j hj => by
  rcases Nat.lt_or_ge j i with h5 | h5
  · exact h j h5
  · have e : j = i := by omega
    subst e
    rw [hu]
    exact fun h => by cases h
theorem NoneAt.empty {F : List α} {us : List Bool} (h : NoneAt us F.length) : unU F us = [] := by
  cases hu : unU F us with
  | nil => rfl
  | cons y r =>
    obtain ⟨j, h1, h2⟩ := unU_mem (F := F) (us := us) (y := y) (by rw [hu]; exact List.mem_cons_self)
    exact absurd h2 (h j (List.getElem?_eq_some_iff.1 h1).1)
theorem unU_set_length {F : List α} {us : List Bool} {b : Nat} {x : α} (hx : F[b]? = some x) (hu : us[b]? = some false) : (unU F us).length = (unU F (us.set b true)).length + 1 := by
  obtain ⟨e1, e2⟩ := unU_split hx hu
  rw [e1, e2, List.length_append, List.length_append, List.length_cons]
  omega
end
end Go.Proofs.Ytjeklbhdngkngaa
