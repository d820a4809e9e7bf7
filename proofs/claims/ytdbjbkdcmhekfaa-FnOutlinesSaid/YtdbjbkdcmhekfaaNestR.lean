/- Slices of structs whose last cell is a slice, in new memory: each in a block of its own. No program in sight. -/
import Derived.Test.YtdbjbkdcmhekfaaNest
namespace Go.Proofs.Ytdbjbkdcmhekfaa
open Go.RowKit
set_option linter.unusedVariables false

/-- a change in some blocks leaves the rows of other blocks -/
theorem own_other {l h : Nat} {w w' : World} {B : Nat} {e : TypeId} {size : Nat} {v : Value} {n : Nat} {xs : List Value} (p : w.ownsRow B e size v n xs) (q : Chg l h w w') (hne : ∀ g, v.ownBlock = some g → g < l ∨ h ≤ g) : w'.ownsRow B e size v n xs := by
  obtain ⟨h1, h2⟩ := p
  refine ⟨h1, ?_⟩
  rcases h2 with h0 | ⟨g, cap, cur, rfl, hB, hh, r⟩
  · exact .inl h0
  · have hg : g < w.heap.size := by
      rcases Nat.lt_or_ge g w.heap.size with h3 | h3
      · exact h3
      · rw [Array.getElem?_eq_none h3] at hh; cases hh
    exact .inr ⟨g, cap, cur, rfl, hB, (q.block g hg (hne g rfl)).trans hh, r⟩
theorem own_other1 {b g : Nat} {w w' : World} {B : Nat} {e : TypeId} {size n c m : Nat} {xs : List Value} (p : w.ownsRow B e size (.slice (some ⟨g, 0, none⟩) n c) m xs) (q : Chg b (b + 1) w w') (hne : g ≠ b) : w'.ownsRow B e size (.slice (some ⟨g, 0, none⟩) n c) m xs :=
  own_other p q fun g' hg' => by
    have e : g = g' := by simpa [Value.ownBlock] using hg'
    omega
theorem setSeg_one_keep {α : Type} {xs : List α} {p : Nat} {d : α} (h : xs[p]? = some d) : setSeg xs p [d] = xs := by
  obtain ⟨hl, rfl⟩ := List.getElem?_eq_some_iff.1 h
  simp [setSeg]
theorem setSeg_beyond {α : Type} : ∀ (us : List α) (xs : List α) (p q : Nat), q < p → (setSeg xs p us)[q]? = xs[q]?
  | [], _, _, _, _ => rfl
  | u :: us, xs, p, q, h => by
    show (setSeg (xs.set p u) (p + 1) us)[q]? = _
    rw [setSeg_beyond us _ (p + 1) q (by omega), List.getElem?_set_ne (by omega)]
theorem setSeg_behind {α : Type} : ∀ (us : List α) (xs : List α) (p q : Nat), p + us.length ≤ q → (setSeg xs p us)[q]? = xs[q]?
  | [], _, _, _, _ => rfl
  | u :: us, xs, p, q, h => by
    rw [List.length_cons] at h
    show (setSeg (xs.set p u) (p + 1) us)[q]? = _
    rw [setSeg_behind us _ (p + 1) q (by omega), List.getElem?_set_ne (by omega)]
/-- cells laid over the first ones of a row: the last one stood there -/
theorem setSeg_keep {α : Type} {us xs : List α} {p : Nat} {d : α} (h : xs[p + us.length]? = some d) : setSeg xs p us = setSeg xs p (us ++ [d]) := by
  rw [← setSeg_append us [d] xs p]
  exact (setSeg_one_keep (by rw [setSeg_behind us xs p _ (Nat.le_refl _)]; exact h)).symm

section
variable {α : Type} {hd : α → List Value} {inn : α → List (List Value)} {k : Nat}
/-- a row of the outer slice; p: the inner slice's block and capacity -/
def rowR (hd : α → List Value) (inn : α → List (List Value)) (v : α) (p : Nat × Nat) : List Value := hd v ++ [.slice (some ⟨p.1, 0, none⟩) (inn v).length p.2]
def rowsR (hd : α → List Value) (inn : α → List (List Value)) (vs : List α) (ps : List (Nat × Nat)) : List (List Value) := List.zipWith (rowR hd inn) vs ps
theorem rowsR_length {vs : List α} {ps : List (Nat × Nat)} (h : ps.length = vs.length) : (rowsR hd inn vs ps).length = vs.length := by simp [rowsR, h]
theorem rowsR_len (hhd : ∀ v, (hd v).length = 3) (vs : List α) (ps : List (Nat × Nat)) : ∀ c ∈ rowsR hd inn vs ps, c.length = 4 := fun c hc => by
  obtain ⟨i, hi, rfl⟩ := List.mem_iff_getElem.1 hc
  simp [rowsR, rowR, hhd]
theorem rowsR_at {vs : List α} {ps : List (Nat × Nat)} {i : Nat} {v : α} {p : Nat × Nat} (hv : vs[i]? = some v) (hg : ps[i]? = some p) : (rowsR hd inn vs ps)[i]? = some (rowR hd inn v p) := by
  simp [rowsR, List.getElem?_zipWith, hv, hg]
theorem rowsR_set {vs : List α} {ps : List (Nat × Nat)} {j : Nat} {p : Nat × Nat} {v : α} (hg : ps[j]? = some p) : rowsR hd inn (vs.set j v) ps = (rowsR hd inn vs ps).set j (rowR hd inn v p) := by
  apply List.ext_getElem?
  intro i
  rw [rowsR, rowsR, List.getElem?_zipWith, List.getElem?_set, List.getElem?_set, List.getElem?_zipWith]
  by_cases hij : j = i
  · subst hij
    rw [if_pos rfl, if_pos rfl]
    by_cases hl : j < vs.length
    · have h2 : j < ps.length := (List.getElem?_eq_some_iff.1 hg).1
      rw [if_pos hl, if_pos (by simp; omega), hg]
    · rw [if_neg hl, if_neg (by simp; omega)]
  · rw [if_neg hij, if_neg hij]
theorem rowsR_snoc {vs : List α} {ps : List (Nat × Nat)} {v : α} {p : Nat × Nat} (h : ps.length = vs.length) : rowsR hd inn (vs ++ [v]) (ps ++ [p]) = rowsR hd inn vs ps ++ [rowR hd inn v p] := by
  rw [rowsR, rowsR, List.zipWith_append (by omega)]
  rfl
/-- the whole is owned, outer and inner slices each in a block of its own, between B and E -/
structure NestR (w : World) (B E : Nat) (T T' : TypeId) (k : Nat) (hd : α → List Value) (inn : α → List (List Value)) (g c : Nat) (ps : List (Nat × Nat)) (vs : List α) : Prop where
  outer : w.ownsRow B T 4 (.slice (some ⟨g, 0, none⟩) vs.length c) vs.length (rowsR hd inn vs ps).flatten
  len : ps.length = vs.length
  apart : (ps.map Prod.fst).Nodup
  away : ∀ p ∈ ps, p.1 ≠ g
  gl : B ≤ g ∧ g < E ∧ g < w.heap.size
  gsl : ∀ p ∈ ps, B ≤ p.1 ∧ p.1 < E ∧ p.1 < w.heap.size
  inner : ∀ (i : Nat) (v : α) (p : Nat × Nat), vs[i]? = some v → ps[i]? = some p → w.ownsRow p.1 T' k (.slice (some ⟨p.1, 0, none⟩) (inn v).length p.2) (inn v).length (inn v).flatten
theorem NestR.below {w w1 : World} {B E : Nat} {T T' : TypeId} {g c : Nat} {ps : List (Nat × Nat)} {vs : List α} (h : NestR w B E T T' k hd inn g c ps vs) (hb : Below w.heap.size w w1) : NestR w1 B E T T' k hd inn g c ps vs :=
  ⟨own_below h.outer hb, h.len, h.apart, h.away, ⟨h.gl.1, h.gl.2.1, Nat.lt_of_lt_of_le h.gl.2.2 hb.size⟩, fun p hp => ⟨(h.gsl p hp).1, (h.gsl p hp).2.1, Nat.lt_of_lt_of_le (h.gsl p hp).2.2 hb.size⟩, fun i v p h1 h2 => own_below (h.inner i v p h1 h2) hb⟩
theorem NestR.wide {w : World} {B E B' E' : Nat} {T T' : TypeId} {g c : Nat} {ps : List (Nat × Nat)} {vs : List α} (h : NestR w B E T T' k hd inn g c ps vs) (hB : B' ≤ B) (hE : E ≤ E') : NestR w B' E' T T' k hd inn g c ps vs :=
  ⟨own_mono h.outer hB, h.len, h.apart, h.away, ⟨Nat.le_trans hB h.gl.1, Nat.lt_of_lt_of_le h.gl.2.1 hE, h.gl.2.2⟩, fun p hp => ⟨Nat.le_trans hB (h.gsl p hp).1, Nat.lt_of_lt_of_le (h.gsl p hp).2.1 hE, (h.gsl p hp).2.2⟩, h.inner⟩
theorem NestR.chg {w w1 : World} {B E : Nat} {T T' : TypeId} {g c l h' : Nat} {ps : List (Nat × Nat)} {vs : List α} (h : NestR w B E T T' k hd inn g c ps vs) (q : Chg l h' w w1) (hh : h' ≤ B ∨ E ≤ l) : NestR w1 B E T T' k hd inn g c ps vs :=
  ⟨own_other h.outer q (fun g' hg' => by have e : g = g' := (by simpa [Value.ownBlock] using hg'); have := h.gl; omega), h.len, h.apart, h.away, ⟨h.gl.1, h.gl.2.1, Nat.lt_of_lt_of_le h.gl.2.2 q.size⟩, fun p hp => ⟨(h.gsl p hp).1, (h.gsl p hp).2.1, Nat.lt_of_lt_of_le (h.gsl p hp).2.2 q.size⟩,
    fun i v p h1 h2 => own_other (h.inner i v p h1 h2) q (fun g' hg' => by have e : p.1 = g' := (by simpa [Value.ownBlock] using hg'); have := h.gsl p (List.mem_of_getElem? h2); omega)⟩
theorem NestR.at {w : World} {B E : Nat} {T T' : TypeId} {g c : Nat} {ps : List (Nat × Nat)} {vs : List α} (h : NestR w B E T T' k hd inn g c ps vs) (hhd : ∀ v, (hd v).length = 3) (hin : ∀ v, ∀ c ∈ inn v, c.length = k) : NestAt k hd inn w (some ⟨g, 0, none⟩) vs := fun hne => by
  refine ⟨g, 0, rfl, h.gl.2.2, fun i v hi => ?_⟩
  have hil : i < vs.length := (List.getElem?_eq_some_iff.1 hi).1
  have hgi : ps[i]? = some (ps[i]'(by rw [h.len]; exact hil)) := List.getElem?_eq_getElem _
  obtain ⟨p, hgi⟩ : ∃ p, ps[i]? = some p := ⟨_, hgi⟩
  have c := h.inner i v p hi hgi
  have hrow := rowsR_at (hd := hd) (inn := inn) hi hgi
  have hlen := rowsR_len (inn := inn) hhd vs ps
  refine ⟨fun j u hj => ?_, some ⟨p.1, 0, none⟩, p.2, ?_, rows_own c rfl (hin v)⟩
  · have hjl : j < 3 := by have := (List.getElem?_eq_some_iff.1 hj).1; rw [hhd] at this; exact this
    rw [Nat.zero_add, h.outer.cellAt (i * 4 + j) (by omega), flatten_at hlen hrow (by omega), rowR, List.getElem?_append_left (by rw [hhd]; exact hjl), hj]
  · rw [Nat.zero_add, h.outer.cellAt (i * 4 + 3) (by omega), flatten_at hlen hrow (by omega), rowR, List.getElem?_append_right (by rw [hhd]; exact Nat.le_refl _), hhd]
    rfl
theorem NestR.nil {w : World} {B E : Nat} {T T' : TypeId} {g c : Nat} (ho : w.ownsRow B T 4 (.slice (some ⟨g, 0, none⟩) 0 c) 0 []) (hE : g < E) : NestR w B E T T' k hd inn g c [] ([] : List α) :=
  ⟨ho, rfl, List.nodup_nil, (fun p hp => by cases hp), ⟨(ho.lt g rfl).1, hE, (ho.lt g rfl).2⟩, (fun p hp => by cases hp), (fun i v p h => by simp at h)⟩
/-- nil, or owned -/
def NestRV (w : World) (B E : Nat) (T T' : TypeId) (k : Nat) (hd : α → List Value) (inn : α → List (List Value)) (A : Option Addr) (c : Nat) (vs : List α) : Prop :=
  (vs = [] ∧ A = none ∧ c = 0) ∨ ∃ g ps, A = some ⟨g, 0, none⟩ ∧ NestR w B E T T' k hd inn g c ps vs
theorem NestRV.below {w w1 : World} {B E : Nat} {T T' : TypeId} {A : Option Addr} {c : Nat} {vs : List α} (h : NestRV w B E T T' k hd inn A c vs) (hb : Below w.heap.size w w1) : NestRV w1 B E T T' k hd inn A c vs := by
  rcases h with h | ⟨g, ps, hA, h⟩
  · exact .inl h
  · exact .inr ⟨g, ps, hA, h.below hb⟩
theorem NestRV.chg {w w1 : World} {B E : Nat} {T T' : TypeId} {A : Option Addr} {c l h' : Nat} {vs : List α} (h : NestRV w B E T T' k hd inn A c vs) (q : Chg l h' w w1) (hh : h' ≤ B ∨ E ≤ l) : NestRV w1 B E T T' k hd inn A c vs := by
  rcases h with h | ⟨g, ps, hA, h⟩
  · exact .inl h
  · exact .inr ⟨g, ps, hA, h.chg q hh⟩
theorem NestRV.low {w w1 : World} {B E : Nat} {T T' : TypeId} {A : Option Addr} {c l h' : Nat} {vs : List α} (h : NestRV w B E T T' k hd inn A c vs) (q : Chg l h' w w1) (hh : E ≤ l) : NestRV w1 B E T T' k hd inn A c vs := h.chg q (.inr hh)
theorem NestRV.high {w w1 : World} {B E : Nat} {T T' : TypeId} {A : Option Addr} {c l h' : Nat} {vs : List α} (h : NestRV w B E T T' k hd inn A c vs) (q : Chg l h' w w1) (hh : h' ≤ B) : NestRV w1 B E T T' k hd inn A c vs := h.chg q (.inl hh)
theorem NestRV.at {w : World} {B E : Nat} {T T' : TypeId} {A : Option Addr} {c : Nat} {vs : List α} (h : NestRV w B E T T' k hd inn A c vs) (hhd : ∀ v, (hd v).length = 3) (hin : ∀ v, ∀ c ∈ inn v, c.length = k) : NestAt k hd inn w A vs := by
  rcases h with ⟨rfl, h, _⟩ | ⟨g, ps, rfl, h⟩
  · exact fun hne => absurd rfl hne
  · exact h.at hhd hin
/-- read from a block, inner slices from their blocks -/
def NestB (k : Nat) (hd : α → List Value) (inn : α → List (List Value)) (w : World) (g : Nat) (vs : List α) : Prop :=
  vs ≠ [] → g < w.heap.size ∧ ∀ (i : Nat) (v : α), vs[i]? = some v → (∀ j u, (hd v)[j]? = some u → w.cell? ⟨g, i * 4 + j, none⟩ = some u) ∧ ∃ gi, w.cell? ⟨g, i * 4 + 3, none⟩ = some (.slice (some ⟨gi, 0, none⟩) (inn v).length (inn v).length) ∧ RowsAt w k (some ⟨gi, 0, none⟩) (inn v)
theorem NestB.below {w w1 : World} {g : Nat} {vs : List α} (h : NestB k hd inn w g vs) (hb : Below w.heap.size w w1) : NestB k hd inn w1 g vs := fun hne => by
  obtain ⟨hlt, hc⟩ := h hne
  refine ⟨Nat.lt_of_lt_of_le hlt hb.size, fun i v hi => ?_⟩
  obtain ⟨h1, gi, h2, h3⟩ := hc i v hi
  exact ⟨fun j u hj => (hb.cell (p := ⟨g, _, none⟩) hlt).trans (h1 j u hj), gi, (hb.cell (p := ⟨g, _, none⟩) hlt).trans h2, h3.below hb⟩
theorem NestB.at {w : World} {g : Nat} {vs : List α} (h : NestB k hd inn w g vs) : NestAt k hd inn w (some ⟨g, 0, none⟩) vs := fun hne => by
  obtain ⟨hlt, hc⟩ := h hne
  refine ⟨g, 0, rfl, hlt, fun i v hi => ?_⟩
  obtain ⟨h1, gi, h2, h3⟩ := hc i v hi
  exact ⟨fun j u hj => by rw [Nat.zero_add]; exact h1 j u hj, _, _, by rw [Nat.zero_add]; exact h2, h3⟩
theorem NestOwn.atB {w : World} {B E : Nat} {T T' : TypeId} {g : Nat} {vs : List α} (h : NestOwn w B E T T' k hd inn g vs) (hhd : ∀ v, (hd v).length = 3) (hin : ∀ v, ∀ c ∈ inn v, c.length = k) : NestB k hd inn w g vs := fun hne => by
  obtain ⟨gs, h1, ⟨h2, h3, h4⟩, _⟩ := h
  refine ⟨(h1.lt g rfl).2, fun i v hi => ?_⟩
  have hil : i < vs.length := (List.getElem?_eq_some_iff.1 hi).1
  have hgi : gs[i]? = some gs[i] := List.getElem?_eq_getElem (by omega)
  obtain ⟨a, b, c⟩ := h4 i v _ hi hgi
  have hrow := nestRows_at (hd := hd) (inn := inn) hi hgi
  have hlen := nestRows_len (inn := inn) hhd vs gs
  refine ⟨fun j u hj => ?_, gs[i], ?_, rows_own c rfl (hin v)⟩
  · have hjl : j < 3 := by have := (List.getElem?_eq_some_iff.1 hj).1; rw [hhd] at this; exact this
    rw [h1.cellAt (i * 4 + j) (by omega), flatten_at hlen hrow (by omega), nestRow, List.getElem?_append_left (by rw [hhd]; exact hjl), hj]
  · rw [h1.cellAt (i * 4 + 3) (by omega), flatten_at hlen hrow (by omega), nestRow, List.getElem?_append_right (by rw [hhd]; exact Nat.le_refl _), hhd]
    rfl
end

end Go.Proofs.Ytdbjbkdcmhekfaa
