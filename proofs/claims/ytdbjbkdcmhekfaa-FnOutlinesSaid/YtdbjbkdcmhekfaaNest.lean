/- Slices of structs of four cells whose last is a slice: reading, owning. No program in sight. -/
import Derived.Test.YtdbjbkdcmhekfaaRowsKit
import Derived.Test.YtdbjbkdcmhekfaaFrame
namespace Go.Proofs.Ytdbjbkdcmhekfaa
open Go.RowKit
set_option linter.unusedVariables false

/-- numbers as rows of one cell -/
def cellsI (ns : List Int) : List (List Value) := ns.map fun n => [Value.int .i64 n]
theorem cellsI_flat (ns : List Int) : (cellsI ns).flatten = ns.map (Value.int .i64) := by
  induction ns with
  | nil => rfl
  | cons n r ih => simp [cellsI] at ih ⊢; exact ih
theorem cellsI_len (ns : List Int) : ∀ c ∈ cellsI ns, c.length = 1 := fun c hc => by
  obtain ⟨x, _, rfl⟩ := List.mem_map.1 hc
  rfl
theorem cellsI_length (ns : List Int) : (cellsI ns).length = ns.length := by simp [cellsI]
theorem ints_rows {w : World} {A : Option Addr} {ns : List Int} (h : IntsAt w A ns) : RowsAt w 1 A (cellsI ns) := fun hne => by
  obtain ⟨b, o, rfl, hlt, hc⟩ := h (by intro e; subst e; exact hne rfl)
  refine ⟨b, o, rfl, hlt, fun i cs hi j u hj => ?_⟩
  rw [cellsI, List.getElem?_map] at hi
  cases hn : ns[i]? with
  | none => rw [hn] at hi; cases hi
  | some n =>
    rw [hn] at hi
    injection hi with hi
    subst hi
    have hj0 : j = 0 := by have := (List.getElem?_eq_some_iff.1 hj).1; simp at this; omega
    subst hj0
    simp at hj
    subst hj
    rw [Nat.mul_one, Nat.add_zero]
    exact hc i n hn
theorem rows_ints {w : World} {A : Option Addr} {ns : List Int} (h : RowsAt w 1 A (cellsI ns)) : IntsAt w A ns := fun hne => by
  obtain ⟨b, o, rfl, hlt, hc⟩ := h (by intro e; exact hne (by simpa [cellsI] using e))
  refine ⟨b, o, rfl, hlt, fun j n hj => ?_⟩
  have := hc j [.int .i64 n] (by rw [cellsI, List.getElem?_map, hj]; rfl) 0 _ rfl
  rwa [Nat.mul_one, Nat.add_zero] at this

section
variable {α : Type} {hd : α → List Value} {inn : α → List (List Value)} {k : Nat}

/-- a slice of structs: three plain cells, then a slice of rows -/
def NestAt (k : Nat) (hd : α → List Value) (inn : α → List (List Value)) (w : World) (A : Option Addr) (vs : List α) : Prop :=
  vs ≠ [] → ∃ b o, A = some ⟨b, o, none⟩ ∧ b < w.heap.size ∧ ∀ (i : Nat) (v : α), vs[i]? = some v → (∀ j u, (hd v)[j]? = some u → w.cell? ⟨b, o + i * 4 + j, none⟩ = some u) ∧ ∃ A' c', w.cell? ⟨b, o + i * 4 + 3, none⟩ = some (.slice A' (inn v).length c') ∧ RowsAt w k A' (inn v)
theorem NestAt.below {w w1 : World} {A : Option Addr} {vs : List α} (h : NestAt k hd inn w A vs) (hb : Below w.heap.size w w1) : NestAt k hd inn w1 A vs := fun hne => by
  obtain ⟨b, o, rfl, hlt, hc⟩ := h hne
  refine ⟨b, o, rfl, Nat.lt_of_lt_of_le hlt hb.size, fun i v hi => ?_⟩
  obtain ⟨h1, A', c', h2, h3⟩ := hc i v hi
  exact ⟨fun j u hj => (hb.cell (p := ⟨b, _, none⟩) hlt).trans (h1 j u hj), A', c', (hb.cell (p := ⟨b, _, none⟩) hlt).trans h2, h3.below hb⟩
theorem NestAt.up {B : Nat} {w w1 : World} {A : Option Addr} {vs : List α} (h : NestAt k hd inn w A vs) (hb : Below B w w1) (hB : w.heap.size ≤ B) : NestAt k hd inn w1 A vs := h.below (hb.mono hB)

/-- a row of the outer slice -/
def nestRow (hd : α → List Value) (inn : α → List (List Value)) (v : α) (g : Nat) : List Value := hd v ++ [.slice (some ⟨g, 0, none⟩) (inn v).length (inn v).length]
/-- the rows, their inner slices at the blocks gs -/
def nestRows (hd : α → List Value) (inn : α → List (List Value)) (vs : List α) (gs : List Nat) : List (List Value) := List.zipWith (nestRow hd inn) vs gs
theorem nestRows_length {vs : List α} {gs : List Nat} (h : gs.length = vs.length) : (nestRows hd inn vs gs).length = vs.length := by simp [nestRows, h]
theorem nestRows_len (hhd : ∀ v, (hd v).length = 3) (vs : List α) (gs : List Nat) : ∀ c ∈ nestRows hd inn vs gs, c.length = 4 := fun c hc => by
  obtain ⟨i, hi, rfl⟩ := List.mem_iff_getElem.1 hc
  simp [nestRows, nestRow, hhd]
theorem nestRows_at {vs : List α} {gs : List Nat} {i : Nat} {v : α} {g : Nat} (hv : vs[i]? = some v) (hg : gs[i]? = some g) : (nestRows hd inn vs gs)[i]? = some (nestRow hd inn v g) := by
  simp [nestRows, List.getElem?_zipWith, hv, hg]

/-- the inner slices are owned, each in a block of its own that lies above g -/
def InnerOwn (w : World) (T : TypeId) (k : Nat) (inn : α → List (List Value)) (g : Nat) (vs : List α) (gs : List Nat) : Prop :=
  gs.length = vs.length ∧ gs.Pairwise (· < ·) ∧ ∀ (i : Nat) (v : α) (gi : Nat), vs[i]? = some v → gs[i]? = some gi → g < gi ∧ gi < w.heap.size ∧ w.ownsRow gi T k (.slice (some ⟨gi, 0, none⟩) (inn v).length (inn v).length) (inn v).length (inn v).flatten
theorem InnerOwn.nil (w : World) (T : TypeId) (g : Nat) : InnerOwn w T k inn g [] [] := ⟨rfl, List.Pairwise.nil, fun i v gi h => by simp at h⟩
theorem InnerOwn.below {w w1 : World} {T : TypeId} {g : Nat} {vs : List α} {gs : List Nat} (h : InnerOwn w T k inn g vs gs) (hb : Below w.heap.size w w1) : InnerOwn w1 T k inn g vs gs :=
  ⟨h.1, h.2.1, fun i v gi h1 h2 => by
    obtain ⟨a, b, c⟩ := h.2.2 i v gi h1 h2
    exact ⟨a, Nat.lt_of_lt_of_le b hb.size, own_below c hb⟩⟩
theorem InnerOwn.low {w w1 : World} {T : TypeId} {g l h' : Nat} {vs : List α} {gs : List Nat} (h : InnerOwn w T k inn g vs gs) (q : Chg l h' w w1) (hh : h' ≤ g + 1) : InnerOwn w1 T k inn g vs gs :=
  ⟨h.1, h.2.1, fun i v gi h1 h2 => by
    obtain ⟨a, b, c⟩ := h.2.2 i v gi h1 h2
    exact ⟨a, Nat.lt_of_lt_of_le b q.size, own_chg c q (by omega)⟩⟩
theorem InnerOwn.high {w w1 : World} {T : TypeId} {g l h' E : Nat} {vs : List α} {gs : List Nat} (h : InnerOwn w T k inn g vs gs) (q : Chg l h' w w1) (hE : ∀ (i gi : Nat), gs[i]? = some gi → gi < E) (hl : E ≤ l) : InnerOwn w1 T k inn g vs gs :=
  ⟨h.1, h.2.1, fun i v gi h1 h2 => by
    obtain ⟨a, b, c⟩ := h.2.2 i v gi h1 h2
    exact ⟨a, Nat.lt_of_lt_of_le b q.size, own_low c (E := gi + 1) (fun g' hg' => by have : gi = g' := by simpa [Value.ownBlock] using hg'
                                                                                     omega) q (by have := hE i gi h2; omega)⟩⟩
theorem InnerOwn.snoc {w : World} {T : TypeId} {g : Nat} {vs : List α} {gs : List Nat} {v : α} {gi : Nat} (h : InnerOwn w T k inn g vs gs) (hg : g < gi) (hlt : gi < w.heap.size) (hall : ∀ (i g' : Nat), gs[i]? = some g' → g' < gi)
    (ho : w.ownsRow gi T k (.slice (some ⟨gi, 0, none⟩) (inn v).length (inn v).length) (inn v).length (inn v).flatten) : InnerOwn w T k inn g (vs ++ [v]) (gs ++ [gi]) := by
  obtain ⟨h1, h2, h3⟩ := h
  refine ⟨by simp [h1], ?_, fun i v' gi' hv hg' => ?_⟩
  · rw [List.pairwise_append]
    refine ⟨h2, List.pairwise_singleton _ _, fun a ha b hb => ?_⟩
    obtain ⟨i, hi, rfl⟩ := List.mem_iff_getElem.1 ha
    have : b = gi := by simpa using hb
    subst this
    exact hall i _ (List.getElem?_eq_getElem hi)
  · rcases Nat.lt_or_ge i vs.length with hlt' | hge
    · rw [List.getElem?_append_left hlt'] at hv
      rw [List.getElem?_append_left (by omega)] at hg'
      exact h3 i v' gi' hv hg'
    · have hi : i = vs.length := by
        have := (List.getElem?_eq_some_iff.1 hv).1
        simp at this
        omega
      subst hi
      rw [List.getElem?_append_right (Nat.le_refl _), Nat.sub_self] at hv
      rw [List.getElem?_append_right (by omega), show vs.length - gs.length = 0 by omega] at hg'
      simp at hv hg'
      subst hv hg'
      exact ⟨hg, hlt, ho⟩

theorem InnerOwn.chg {w w1 : World} {T : TypeId} {g l h' : Nat} {vs : List α} {gs : List Nat} (h : InnerOwn w T k inn g vs gs) (q : Chg l h' w w1) (hh : h' ≤ g) : InnerOwn w1 T k inn g vs gs := h.low q (by omega)
/-- the whole is owned, between the blocks B and E -/
def NestOwn (w : World) (B E : Nat) (T T' : TypeId) (k : Nat) (hd : α → List Value) (inn : α → List (List Value)) (g : Nat) (vs : List α) : Prop :=
  ∃ gs, w.ownsRow B T 4 (.slice (some ⟨g, 0, none⟩) vs.length vs.length) vs.length (nestRows hd inn vs gs).flatten ∧ InnerOwn w T' k inn g vs gs ∧ g < E ∧ ∀ (i gi : Nat), gs[i]? = some gi → gi < E
theorem NestOwn.below {w w1 : World} {B E : Nat} {T T' : TypeId} {g : Nat} {vs : List α} (h : NestOwn w B E T T' k hd inn g vs) (hb : Below w.heap.size w w1) : NestOwn w1 B E T T' k hd inn g vs := by
  obtain ⟨gs, h1, h2, h3⟩ := h
  exact ⟨gs, own_below h1 hb, h2.below hb, h3⟩
theorem NestOwn.chg {w w1 : World} {B E : Nat} {T T' : TypeId} {g l h' : Nat} {vs : List α} (h : NestOwn w B E T T' k hd inn g vs) (q : Chg l h' w w1) (hh : h' ≤ B) : NestOwn w1 B E T T' k hd inn g vs := by
  obtain ⟨gs, h1, h2, h3⟩ := h
  exact ⟨gs, own_chg h1 q hh, h2.chg q (Nat.le_trans hh (h1.lt g rfl).1), h3⟩
theorem NestOwn.low {w w1 : World} {B E : Nat} {T T' : TypeId} {g l h' : Nat} {vs : List α} (h : NestOwn w B E T T' k hd inn g vs) (q : Chg l h' w w1) (hl : E ≤ l) : NestOwn w1 B E T T' k hd inn g vs := by
  obtain ⟨gs, h1, h2, h3, h4⟩ := h
  exact ⟨gs, own_low h1 (E := E) (fun g' hg' => by have e : g = g' := by simpa [Value.ownBlock] using hg'
                                                   omega) q hl, h2.high q h4 hl, h3, h4⟩
theorem nest_set (hhd : ∀ v, (hd v).length = 3) {vs : List α} {gs : List Nat} {z : List Value} {n j g : Nat} (hj : j < vs.length) (hg : gs.length = j) (hn : n = vs.length) :
    (nestRows hd inn (vs.take j) gs ++ List.replicate (n - j) z).set j (nestRow hd inn vs[j] g) = nestRows hd inn (vs.take (j + 1)) (gs ++ [g]) ++ List.replicate (n - (j + 1)) z := by
  have hl : (nestRows hd inn (vs.take j) gs).length = j := by rw [nestRows_length (by rw [List.length_take]; omega), List.length_take]; omega
  have e2 : n - j = (n - (j + 1)) + 1 := by omega
  rw [List.set_append_right _ _ (by omega), hl, Nat.sub_self, e2, List.replicate_succ, List.set_cons_zero, List.take_succ_eq_append_getElem hj]
  rw [nestRows, nestRows, List.zipWith_append (by rw [List.length_take]; omega)]
  simp
theorem NestOwn.at {w : World} {B E : Nat} {T T' : TypeId} {g : Nat} {vs : List α} (h : NestOwn w B E T T' k hd inn g vs) (hhd : ∀ v, (hd v).length = 3) (hin : ∀ v, ∀ c ∈ inn v, c.length = k) : NestAt k hd inn w (some ⟨g, 0, none⟩) vs := fun hne => by
  obtain ⟨gs, h1, ⟨h2, h3, h4⟩, _⟩ := h
  have hg := (h1.lt g rfl).2
  refine ⟨g, 0, rfl, hg, fun i v hi => ?_⟩
  have hil : i < vs.length := (List.getElem?_eq_some_iff.1 hi).1
  have hgi : gs[i]? = some gs[i] := List.getElem?_eq_getElem (by omega)
  obtain ⟨a, b, c⟩ := h4 i v _ hi hgi
  have hrow := nestRows_at (hd := hd) (inn := inn) hi hgi
  have hlen := nestRows_len (inn := inn) hhd vs gs
  have hb : i * 4 + 4 ≤ vs.length * 4 := by omega
  refine ⟨fun j u hj => ?_, some ⟨gs[i], 0, none⟩, (inn v).length, ?_, rows_own c rfl (hin v)⟩
  · have hjl : j < 3 := by have := (List.getElem?_eq_some_iff.1 hj).1; rw [hhd] at this; exact this
    rw [Nat.zero_add, h1.cellAt (i * 4 + j) (by omega), flatten_at hlen hrow (by omega), nestRow, List.getElem?_append_left (by rw [hhd]; exact hjl), hj]
  · rw [Nat.zero_add, h1.cellAt (i * 4 + 3) (by omega), flatten_at hlen hrow (by omega), nestRow, List.getElem?_append_right (by rw [hhd]; exact Nat.le_refl _), hhd]
    rfl
end

end Go.Proofs.Ytdbjbkdcmhekfaa
