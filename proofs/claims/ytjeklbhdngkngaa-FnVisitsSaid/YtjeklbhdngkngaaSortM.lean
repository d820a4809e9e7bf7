/- A stable order by keys: no program in sight. -/
import Derived.Lib.Hide
namespace Go.Proofs.Ytjeklbhdngkngaa
set_option linter.unusedVariables false

/-- the keys ascend -/
def UpK {α : Type} (key : α → Int) (l : List α) : Prop := l.Pairwise fun x y => key x ≤ key y
/-- the same elements; those of one key stand in the same order -/
def SameK {α : Type} (key : α → Int) (l l' : List α) : Prop := l'.length = l.length ∧ ∀ k : Int, l'.filter (fun x => decide (key x = k)) = l.filter (fun x => decide (key x = k))

theorem SameK.refl {α : Type} (key : α → Int) (l : List α) : SameK key l l := ⟨rfl, fun _ => rfl⟩
theorem SameK.trans {α : Type} {key : α → Int} {a b c : List α} (h : SameK key a b) (h2 : SameK key b c) : SameK key a c := ⟨h2.1.trans h.1, fun k => (h2.2 k).trans (h.2 k)⟩
theorem SameK.app {α : Type} {key : α → Int} {a b c d : List α} (h : SameK key a b) (h2 : SameK key c d) : SameK key (a ++ c) (b ++ d) := by
  refine ⟨by rw [List.length_append, List.length_append, h.1, h2.1], fun k => ?_⟩
  rw [List.filter_append, List.filter_append, h.2 k, h2.2 k]
theorem SameK.mem {α : Type} {key : α → Int} {a b : List α} (h : SameK key a b) {x : α} (hx : x ∈ b) : x ∈ a := by
  have h1 : x ∈ b.filter (fun y => decide (key y = key x)) := List.mem_filter.2 ⟨hx, by simp⟩
  rw [h.2] at h1
  exact (List.mem_filter.1 h1).1
/-- two neighbours change places, where the second comes ahead of the first -/
theorem SameK.turn {α : Type} {key : α → Int} {a b : List α} (h : ∀ x ∈ a, ∀ y ∈ b, key y < key x) : SameK key (a ++ b) (b ++ a) := by
  refine ⟨by rw [List.length_append, List.length_append]; omega, fun k => ?_⟩
  rw [List.filter_append, List.filter_append]
  by_cases hk : ∃ x ∈ a, key x = k
  · obtain ⟨x, hx, rfl⟩ := hk
    have h1 : b.filter (fun y => decide (key y = key x)) = [] := by
      rw [List.filter_eq_nil_iff]
      intro y hy
      have := h x hx y hy
      simp
      omega
    rw [h1, List.nil_append, List.append_nil]
  · have h1 : a.filter (fun y => decide (key y = k)) = [] := by
      rw [List.filter_eq_nil_iff]
      intro y hy h2
      exact hk ⟨y, hy, by simpa using h2⟩
    rw [h1, List.nil_append, List.append_nil]
theorem UpK.at {α : Type} {key : α → Int} {l : List α} (h : UpK key l) {i j : Nat} (hi : i ≤ j) (hj : j < l.length) : key (l[i]'(Nat.lt_of_le_of_lt hi hj)) ≤ key l[j] := by
  rcases Nat.lt_or_ge i j with h1 | h1
  · exact List.pairwise_iff_getElem.1 h i j _ hj h1
  · have e : i = j := by omega
    subst e
    exact Int.le_refl _
theorem UpK.app {α : Type} {key : α → Int} {a b : List α} (ha : UpK key a) (hb : UpK key b) (h : ∀ x ∈ a, ∀ y ∈ b, key x ≤ key y) : UpK key (a ++ b) := List.pairwise_append.2 ⟨ha, hb, h⟩
theorem UpK.left {α : Type} {key : α → Int} {a b : List α} (h : UpK key (a ++ b)) : UpK key a := (List.pairwise_append.1 h).1
theorem UpK.right {α : Type} {key : α → Int} {a b : List α} (h : UpK key (a ++ b)) : UpK key b := (List.pairwise_append.1 h).2.1
theorem UpK.mid {α : Type} {key : α → Int} {a b : List α} (h : UpK key (a ++ b)) : ∀ x ∈ a, ∀ y ∈ b, key x ≤ key y := (List.pairwise_append.1 h).2.2
theorem UpK.nil {α : Type} (key : α → Int) : UpK key ([] : List α) := List.Pairwise.nil
theorem UpK.one {α : Type} (key : α → Int) (x : α) : UpK key [x] := List.pairwise_singleton _ _
/-- the order is one -/
theorem SameK.unique {α : Type} {key : α → Int} : ∀ {a b : List α}, UpK key a → UpK key b → SameK key a b → a = b
  | [], b, _, _, h => (List.length_eq_zero_iff.1 h.1).symm
  | x :: r, b, ha, hb, h => by
    cases b with
    | nil => exact absurd h.1 (by simp)
    | cons y q =>
      have hy := h.mem (x := y) (by simp)
      have hx : x ∈ y :: q := (show SameK key (y :: q) (x :: r) from ⟨h.1.symm, fun k => (h.2 k).symm⟩).mem (by simp)
      have h1 : key x ≤ key y := by
        rcases List.mem_cons.1 hy with rfl | hy
        · exact Int.le_refl _
        · exact (List.pairwise_cons.1 ha).1 y hy
      have h2 : key y ≤ key x := by
        rcases List.mem_cons.1 hx with rfl | hx
        · exact Int.le_refl _
        · exact (List.pairwise_cons.1 hb).1 x hx
      have e : key y = key x := by omega
      have h3 := h.2 (key x)
      rw [List.filter_cons_of_pos (by simp [e]), List.filter_cons_of_pos (by simp)] at h3
      injection h3 with h4 h5
      subst h4
      rw [SameK.unique (List.pairwise_cons.1 ha).2 (List.pairwise_cons.1 hb).2 ⟨by have := h.1; simp at this; omega, fun k => ?_⟩]
      by_cases hk : key y = k
      · subst hk; exact h5
      · have h6 := h.2 k
        rwa [List.filter_cons_of_neg (by simpa using hk), List.filter_cons_of_neg (by simpa using hk)] at h6
/-- one more, put in from the end -/
theorem ins_done {α : Type} {key : α → Int} {z1 z2 : List α} {x : α} (h : UpK key (z1 ++ z2)) (h1 : ∀ y ∈ z1, key y ≤ key x) (h2 : ∀ y ∈ z2, key x < key y) : UpK key (z1 ++ x :: z2) ∧ SameK key (z1 ++ z2 ++ [x]) (z1 ++ x :: z2) := by
  constructor
  · refine h.left.app (List.pairwise_cons.2 ⟨fun y hy => Int.le_of_lt (h2 y hy), h.right⟩) fun a ha b hb => ?_
    rcases List.mem_cons.1 hb with rfl | hb
    · exact h1 a ha
    · exact h.mid a ha b hb
  · rw [List.append_assoc]
    exact (SameK.refl key z1).app (SameK.turn (a := z2) (b := [x]) fun a ha b hb => by rw [List.mem_singleton.1 hb]; exact h2 a ha)
theorem up_last {α : Type} {key : α → Int} {z : List α} {y : α} {x : α} (h : UpK key (z ++ [y])) (hy : key y ≤ key x) : ∀ a ∈ z ++ [y], key a ≤ key x := fun a ha => by
  rcases List.mem_append.1 ha with ha | ha
  · have := h.mid a ha y (by simp); omega
  · rw [List.mem_singleton.1 ha]; exact hy
/-- what stands below a border -/
theorem up_take {α : Type} {key : α → Int} {l : List α} (h : UpK key l) {s : Nat} {t : Int} (hs : s = 0 ∨ ∃ h1 : s - 1 < l.length, key l[s - 1] ≤ t) : ∀ x ∈ l.take s, key x ≤ t := fun x hx => by
  obtain ⟨i, hi, rfl⟩ := List.getElem_of_mem hx
  rw [List.length_take] at hi
  rw [List.getElem_take]
  rcases hs with rfl | ⟨h1, h2⟩
  · omega
  · have := h.at (i := i) (j := s - 1) (by omega) h1
    omega
theorem up_take_lt {α : Type} {key : α → Int} {l : List α} (h : UpK key l) {s : Nat} {t : Int} (hs : s = 0 ∨ ∃ h1 : s - 1 < l.length, key l[s - 1] < t) : ∀ x ∈ l.take s, key x < t := fun x hx => by
  obtain ⟨i, hi, rfl⟩ := List.getElem_of_mem hx
  rw [List.length_take] at hi
  rw [List.getElem_take]
  rcases hs with rfl | ⟨h1, h2⟩
  · omega
  · have := h.at (i := i) (j := s - 1) (by omega) h1
    omega
theorem up_drop {α : Type} {key : α → Int} {l : List α} (h : UpK key l) {s : Nat} {t : Int} (hs : s = l.length ∨ ∃ h1 : s < l.length, t ≤ key l[s]) : ∀ x ∈ l.drop s, t ≤ key x := fun x hx => by
  obtain ⟨i, hi, rfl⟩ := List.getElem_of_mem hx
  rw [List.length_drop] at hi
  rw [List.getElem_drop]
  rcases hs with rfl | ⟨h1, h2⟩
  · omega
  · have := h.at (i := s) (j := s + i) (by omega) (by omega)
    omega
theorem up_drop_lt {α : Type} {key : α → Int} {l : List α} (h : UpK key l) {s : Nat} {t : Int} (hs : s = l.length ∨ ∃ h1 : s < l.length, t < key l[s]) : ∀ x ∈ l.drop s, t < key x := fun x hx => by
  obtain ⟨i, hi, rfl⟩ := List.getElem_of_mem hx
  rw [List.length_drop] at hi
  rw [List.getElem_drop]
  rcases hs with rfl | ⟨h1, h2⟩
  · omega
  · have := h.at (i := s) (j := s + i) (by omega) (by omega)
    omega
/-- one ahead of a sorted row, moved to its place -/
theorem merge_one_left {α : Type} {key : α → Int} {x : α} {y : List α} (hy : UpK key y) {s : Nat} (h1 : s = 0 ∨ ∃ h : s - 1 < y.length, key y[s - 1] < key x) (h2 : s = y.length ∨ ∃ h : s < y.length, key x ≤ key y[s]) : UpK key (y.take s ++ x :: y.drop s) ∧ SameK key (x :: y) (y.take s ++ x :: y.drop s) := by
  have a := up_take_lt hy h1
  have b := up_drop hy h2
  have hy2 : UpK key (y.take s ++ y.drop s) := by rw [List.take_append_drop]; exact hy
  constructor
  · refine hy2.left.app (List.pairwise_cons.2 ⟨b, hy2.right⟩) fun u hu v hv => ?_
    rcases List.mem_cons.1 hv with rfl | hv
    · exact Int.le_of_lt (a u hu)
    · exact hy2.mid u hu v hv
  · have h3 := (SameK.turn (key := key) (a := [x]) (b := y.take s) fun u hu v hv => by rw [List.mem_singleton.1 hu]; exact a v hv).app (SameK.refl key (y.drop s))
    rw [List.append_assoc, List.take_append_drop, List.append_assoc] at h3
    exact h3
/-- one behind a sorted row, moved to its place -/
theorem merge_one_right {α : Type} {key : α → Int} {x : List α} {y : α} (hx : UpK key x) {s : Nat} (h1 : s = 0 ∨ ∃ h : s - 1 < x.length, key x[s - 1] ≤ key y) (h2 : s = x.length ∨ ∃ h : s < x.length, key y < key x[s]) : UpK key (x.take s ++ y :: x.drop s) ∧ SameK key (x ++ [y]) (x.take s ++ y :: x.drop s) := by
  have hx2 : UpK key (x.take s ++ x.drop s) := by rw [List.take_append_drop]; exact hx
  have h3 := ins_done hx2 (up_take hx h1) (up_drop_lt hx h2)
  rw [List.take_append_drop] at h3
  exact h3
/-- two sorted rows, cut so that each half can be merged by itself -/
theorem merge_mid {α : Type} {key : α → Int} {l1 l2 r1 r2 z1 z2 : List α} (hx : UpK key (l1 ++ l2)) (hy : UpK key (r1 ++ r2)) (ha : ∀ x ∈ l1, ∀ y ∈ r2, key x ≤ key y) (hb : ∀ x ∈ l2, ∀ y ∈ r1, key y < key x) (h1 : UpK key z1) (s1 : SameK key (l1 ++ r1) z1) (h2 : UpK key z2) (s2 : SameK key (l2 ++ r2) z2) : UpK key (z1 ++ z2) ∧ SameK key ((l1 ++ l2) ++ (r1 ++ r2)) (z1 ++ z2) := by
  constructor
  · refine h1.app h2 fun u hu v hv => ?_
    have hu := s1.mem hu
    have hv := s2.mem hv
    rcases List.mem_append.1 hu with hu | hu <;> rcases List.mem_append.1 hv with hv | hv
    · exact hx.mid u hu v hv
    · exact ha u hu v hv
    · exact Int.le_of_lt (hb v hv u hu)
    · exact hy.mid u hu v hv
  · have h3 := ((SameK.refl key l1).app (SameK.turn hb)).app (SameK.refl key r2)
    have h4 := s1.app s2
    simp only [List.append_assoc] at h3 h4 ⊢
    exact h3.trans h4
theorem border {α : Type} {key : α → Int} {x y : List α} (hx : UpK key x) (hy : UpK key y) {s e : Nat} (h : s = 0 ∨ e = y.length ∨ ∃ (h1 : s - 1 < x.length) (h2 : e < y.length), key x[s - 1] ≤ key y[e]) : ∀ u ∈ x.take s, ∀ v ∈ y.drop e, key u ≤ key v := fun u hu v hv => by
  rcases h with rfl | rfl | ⟨h1, h2, h3⟩
  · simp at hu
  · simp at hv
  · have a := up_take hx (.inr ⟨h1, Int.le_refl _⟩) u hu
    have b := up_drop hy (.inr ⟨h2, Int.le_refl _⟩) v hv
    omega
theorem border_lt {α : Type} {key : α → Int} {x y : List α} (hx : UpK key x) (hy : UpK key y) {s e : Nat} (h : s = x.length ∨ e = 0 ∨ ∃ (h1 : s < x.length) (h2 : e - 1 < y.length), key y[e - 1] < key x[s]) : ∀ u ∈ x.drop s, ∀ v ∈ y.take e, key v < key u := fun u hu v hv => by
  rcases h with rfl | rfl | ⟨h1, h2, h3⟩
  · simp at hu
  · simp at hv
  · have a := up_drop hx (.inr ⟨h1, Int.le_refl _⟩) u hu
    have b := up_take hy (.inr ⟨h2, Int.le_refl _⟩) v hv
    omega
/-- two rows merged, the first one's ahead where keys are alike -/
def mergeK {α : Type} (key : α → Int) : List α → List α → List α
  | [], b => b
  | a, [] => a
  | x :: a, y :: b => if key x ≤ key y then x :: mergeK key a (y :: b) else y :: mergeK key (x :: a) b
termination_by a b => a.length + b.length
theorem mergeK_nil {α : Type} (key : α → Int) (a : List α) : mergeK key a [] = a := by cases a <;> rw [mergeK] <;> simp
theorem mergeK_mem {α : Type} {key : α → Int} (a b : List α) : ∀ z ∈ mergeK key a b, z ∈ a ∨ z ∈ b := by
  induction a, b using mergeK.induct key with
  | case1 b => intro z hz; rw [mergeK] at hz; exact .inr hz
  | case2 a h => intro z hz; rw [mergeK_nil] at hz; exact .inl hz
  | case3 x a y b h ih =>
    intro z hz
    rw [mergeK, if_pos h] at hz
    rcases List.mem_cons.1 hz with rfl | hz
    · exact .inl (by simp)
    · rcases ih z hz with h1 | h1
      · exact .inl (List.mem_cons_of_mem _ h1)
      · exact .inr h1
  | case4 x a y b h ih =>
    intro z hz
    rw [mergeK, if_neg h] at hz
    rcases List.mem_cons.1 hz with rfl | hz
    · exact .inr (by simp)
    · rcases ih z hz with h1 | h1
      · exact .inl h1
      · exact .inr (List.mem_cons_of_mem _ h1)
theorem mergeK_ok {α : Type} {key : α → Int} (a b : List α) (ha : UpK key a) (hb : UpK key b) : UpK key (mergeK key a b) ∧ SameK key (a ++ b) (mergeK key a b) := by
  induction a, b using mergeK.induct key with
  | case1 b => rw [mergeK]; exact ⟨hb, SameK.refl _ _⟩
  | case2 a h => rw [mergeK_nil, List.append_nil]; exact ⟨ha, SameK.refl _ _⟩
  | case3 x a y b h ih =>
    obtain ⟨h1, h2⟩ := ih (List.pairwise_cons.1 ha).2 hb
    rw [mergeK, if_pos h]
    refine ⟨List.pairwise_cons.2 ⟨fun z hz => ?_, h1⟩, (SameK.refl key [x]).app h2⟩
    rcases mergeK_mem _ _ z hz with hz | hz
    · exact (List.pairwise_cons.1 ha).1 z hz
    · rcases List.mem_cons.1 hz with rfl | hz
      · exact h
      · have := (List.pairwise_cons.1 hb).1 z hz; omega
  | case4 x a y b h ih =>
    obtain ⟨h1, h2⟩ := ih ha (List.pairwise_cons.1 hb).2
    rw [mergeK, if_neg h]
    refine ⟨List.pairwise_cons.2 ⟨fun z hz => ?_, h1⟩, ?_⟩
    · rcases mergeK_mem _ _ z hz with hz | hz
      · rcases List.mem_cons.1 hz with rfl | hz
        · omega
        · have := (List.pairwise_cons.1 ha).1 z hz; omega
      · exact (List.pairwise_cons.1 hb).1 z hz
    · have h3 := (SameK.turn (key := key) (a := x :: a) (b := [y]) fun u hu v hv => by
        rw [List.mem_singleton.1 hv]
        rcases List.mem_cons.1 hu with rfl | hu
        · omega
        · have := (List.pairwise_cons.1 ha).1 u hu; omega).app (SameK.refl key b)
      rw [List.append_assoc] at h3
      exact h3.trans ((SameK.refl key [y]).app h2)

end Go.Proofs.Ytjeklbhdngkngaa
