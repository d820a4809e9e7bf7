/- Deleting elements of a row in place: pure; rows that are cut; a row that is cleared. -/
import Derived.Test.YtjeklbhdngkngaaRowsKit
import Derived.Test.YtjeklbhdngkngaaPut
import Derived.Lib.SliceRun
namespace Go.Proofs.Ytjeklbhdngkngaa
open Go.RowKit
set_option linter.unusedVariables false

/-- j elements have been looked at, i of them are kept at the head of ys -/
structure DelInv {α : Type} (p : α → Bool) (xs ys : List α) (j i : Nat) : Prop where
  len : ys.length = xs.length
  le : i < j
  jle : j ≤ xs.length
  head : ys.take i = (xs.take j).filter (fun x => !p x)
  tail : ys.drop j = xs.drop j
  cnt : i = ((xs.take j).filter (fun x => !p x)).length
theorem filter_all {α : Type} {p : α → Bool} {xs : List α} (h : ∀ j (hj : j < xs.length), p xs[j] = false) : xs.filter (fun x => !p x) = xs := by
  rw [List.filter_eq_self]
  intro x hx
  obtain ⟨j, hj, rfl⟩ := List.mem_iff_getElem.1 hx
  rw [h j hj]
  rfl
theorem DelInv.start {α : Type} {p : α → Bool} {xs : List α} {i : Nat} (hi : i < xs.length) (h : ∀ j (hj : j < xs.length), j < i → p xs[j] = false) (h1 : p xs[i] = true) : DelInv p xs xs (i + 1) i := by
  have e : (xs.take i).filter (fun x => !p x) = xs.take i := filter_all fun j hj => by
    rw [List.length_take] at hj
    rw [List.getElem_take]
    exact h j (by omega) (by omega)
  have e2 : (xs.take (i + 1)).filter (fun x => !p x) = xs.take i := by
    rw [List.take_succ_eq_append_getElem hi, List.filter_append, e]
    simp [h1]
  exact ⟨rfl, by omega, by omega, e2.symm, rfl, by rw [e2, List.length_take]; omega⟩
theorem DelInv.skip {α : Type} {p : α → Bool} {xs ys : List α} {j i : Nat} (h : DelInv p xs ys j i) (hj : j < xs.length) (h1 : p xs[j] = true) : DelInv p xs ys (j + 1) i := by
  have e : (xs.take (j + 1)).filter (fun x => !p x) = (xs.take j).filter (fun x => !p x) := by
    rw [List.take_succ_eq_append_getElem hj, List.filter_append]
    simp [h1]
  refine ⟨h.len, by have := h.le; omega, by omega, by rw [e]; exact h.head, ?_, by rw [e]; exact h.cnt⟩
  have := congrArg (List.drop 1) h.tail
  rw [List.drop_drop, List.drop_drop] at this
  exact this
theorem DelInv.keep {α : Type} {p : α → Bool} {xs ys : List α} {j i : Nat} (h : DelInv p xs ys j i) (hj : j < xs.length) (h1 : p xs[j] = false) : DelInv p xs (ys.set i xs[j]) (j + 1) (i + 1) := by
  have e : (xs.take (j + 1)).filter (fun x => !p x) = (xs.take j).filter (fun x => !p x) ++ [xs[j]] := by
    rw [List.take_succ_eq_append_getElem hj, List.filter_append]
    simp [h1]
  have hl := h.len
  have hle := h.le
  refine ⟨by rw [List.length_set]; exact hl, by omega, by omega, ?_, ?_, by rw [e, List.length_append, ← h.cnt]; rfl⟩
  · rw [e, ← h.head, List.take_succ_eq_append_getElem (by rw [List.length_set]; omega), List.getElem_set_self, List.take_set_of_le (Nat.le_refl _)]
  · rw [List.drop_set_of_lt (by omega)]
    have := congrArg (List.drop 1) h.tail
    rw [List.drop_drop, List.drop_drop] at this
    exact this
theorem DelInv.at {α : Type} {p : α → Bool} {xs ys : List α} {j i : Nat} (h : DelInv p xs ys j i) (hj : j < xs.length) : ys[j]? = some xs[j] := by
  have e := congrArg (fun l => l[0]?) h.tail
  simp only [List.getElem?_drop, Nat.add_zero] at e
  rw [e, List.getElem?_eq_getElem hj]
theorem DelInv.done {α : Type} {p : α → Bool} {xs ys : List α} {j i : Nat} (h : DelInv p xs ys j i) (hj : j = xs.length) : ys.take i = xs.filter (fun x => !p x) ∧ i = (xs.filter (fun x => !p x)).length := by
  subst hj
  have h1 := h.head
  have h2 := h.cnt
  rw [List.take_of_length_le (Nat.le_refl _)] at h1 h2
  exact ⟨h1, h2⟩

theorem own_shrink {w : World} {B : Nat} {e : TypeId} {size g n c m : Nat} {xs : List Value} (h : w.ownsRow B e size (.slice (some ⟨g, 0, none⟩) n c) n xs) (hm : m ≤ n) : w.ownsRow B e size (.slice (some ⟨g, 0, none⟩) m c) m (xs.take (m * size)) := by
  obtain ⟨h1, h2⟩ := h
  have hmul : m * size ≤ n * size := Nat.mul_le_mul_right _ hm
  rcases h2 with ⟨h0, _⟩ | ⟨g', cap, cur, hv, hb, hh, hc, hcm, hsz, ht⟩
  · cases h0
  · cases hv
    refine ⟨by rw [List.length_take, h1]; omega, .inr ⟨g, c, cur, rfl, hb, hh, by omega, hcm, hsz, ?_⟩⟩
    rw [← ht, List.take_take, Nat.min_eq_left hmul]

/-- 'clear(s)' on a slice of n > 0 elements of k cells each -/
theorem run_clear_rows {P : Program} (w : World) (t e ty : TypeId) (z : Value) (ht : P.underlying t = some (.slice e)) (hv : ∀ w, (zeroValue e).run P w = .ok z w) (b o n c : Nat) (hn : 0 < n) (us : List Value) (hus : us = (Builtin.zeroCells z.cells n).toList) (h1 : ∀ u ∈ us, u.oneCell' = true)
    (hc : ∀ j, j < us.length → (w.cell? ⟨b, o + j, none⟩).isSome = true) (hf : ∀ j, j < us.length → w.frozen? ⟨b, o + j, none⟩ = false) :
    (Builtin.clear_ #[t] ty #[.slice (some ⟨b, o, none⟩) n c]).run P w = .ok (.tuple #[]) (w.setCells b o us) := by
  have hst := run_storeCells_cells (P := P) b o us 0 w (by simpa using hc) (by simpa using hf) h1
  simp only [Nat.add_zero] at hst
  obtain ⟨m, rfl⟩ : ∃ m, n = m + 1 := ⟨n - 1, by omega⟩
  simp [Builtin.clear_, run_underlying ht, hv, ← hus, hst]

theorem setCells_world {g : Nat} : ∀ (us : List Value) (w : World) (p : Nat), World.setCells w g p us = Go.Proofs.Ytjeklbhdngkngaa.setCells w g p us
  | [], _, _ => rfl
  | u :: us, w, p => setCells_world us (w.setCell ⟨g, p, none⟩ u) (p + 1)
theorem own_wsetCells {B k : Nat} {e : TypeId} {g n cap : Nat} (us : List Value) {w : World} {p : Nat} {xs : List Value} (h : w.ownsRow B e k (.slice (some ⟨g, 0, none⟩) n cap) n xs) : (World.setCells w g p us).ownsRow B e k (.slice (some ⟨g, 0, none⟩) n cap) n (setSeg xs p us) := by
  rw [setCells_world]
  exact own_setCells us h
theorem below_wsetCells {B g : Nat} (hg : B ≤ g) (us : List Value) {w w0 : World} {p : Nat} (h : Below B w0 w) : Below B w0 (World.setCells w g p us) := by
  rw [setCells_world]
  exact below_setCells hg us h
theorem setSeg_head {α : Type} : ∀ (us xs : List α) {p m : Nat}, m ≤ p → (setSeg xs p us).take m = xs.take m
  | [], _, _, _, _ => rfl
  | u :: us, xs, p, m, h => by
    show (setSeg (xs.set p u) (p + 1) us).take m = _
    rw [setSeg_head us _ (by omega), List.take_set_of_le h]
theorem take_flat {α : Type} {k : Nat} : ∀ {css : List (List α)} {i : Nat}, (∀ c ∈ css, c.length = k) → (css.take i).flatten = css.flatten.take (i * k)
  | [], i, _ => by simp
  | c :: r, 0, _ => by simp
  | c :: r, i + 1, hk => by
    have hc := hk c (by simp)
    rw [List.take_succ_cons, List.flatten_cons, List.flatten_cons, take_flat (fun c hc => hk c (by simp [hc])), Nat.succ_mul, List.take_append, hc]
    have e1 : List.take (i * k + k) c = c := List.take_of_length_le (by omega)
    rw [e1, show i * k + k - k = i * k by omega]

end Go.Proofs.Ytjeklbhdngkngaa
