/- Words on blocks: what a law's marks leave as it was. No program in sight. -/
import Derived.Test.YtmfadjdpbobfhaaDoorRowsKit
import Derived.Test.YtmfadjdpbobfhaaDoorKit
namespace Go.Proofs.YtmfadjdpbobfhaaDoor
open Go.RowKit
set_option linter.unusedVariables false

/-- what turned lies from l on and below h, or is new -/
structure Chg (l h : Nat) (w w' : World) : Prop where
  os : w'.os = w.os
  tape : w'.tape = w.tape
  output : w'.output = w.output
  size : w.heap.size ≤ w'.heap.size
  block : ∀ k, k < w.heap.size → (k < l ∨ h ≤ k) → w'.heap[k]? = w.heap[k]?

theorem Chg.refl (l h : Nat) (w : World) : Chg l h w w := ⟨rfl, rfl, rfl, Nat.le_refl _, fun _ _ _ => rfl⟩
theorem Chg.trans {l h : Nat} {a b c : World} (p : Chg l h a b) (q : Chg l h b c) : Chg l h a c :=
  ⟨q.os.trans p.os, q.tape.trans p.tape, q.output.trans p.output, Nat.le_trans p.size q.size, fun k hk ho => (q.block k (Nat.lt_of_lt_of_le hk p.size) ho).trans (p.block k hk ho)⟩
theorem Chg.of_below {l h : Nat} {w w' : World} (p : Below w.heap.size w w') : Chg l h w w' := ⟨p.os, p.tape, p.output, p.size, fun k hk _ => p.block k hk⟩
theorem Chg.then_below {l h : Nat} {w w1 w' : World} (q : Chg l h w w1) (p : Below w1.heap.size w1 w') : Chg l h w w' := q.trans (.of_below p)
theorem Chg.below {l h : Nat} {w w' : World} (p : Chg l h w w') (hl : l ≤ w.heap.size) : Below l w w' := ⟨p.os, p.tape, p.output, p.size, fun k hk => p.block k (Nat.lt_of_lt_of_le hk hl) (.inl hk)⟩
theorem Chg.setCell {l h : Nat} {w0 w : World} (q : Chg l h w0 w) {p : Addr} (u : Value) (h1 : l ≤ p.block) (h2 : p.block < h) : Chg l h w0 (w.setCell p u) :=
  q.trans ⟨rfl, rfl, rfl, by simp [World.setCell], fun k _ ho => Below.heap_setCell _ _ _ _ (by omega)⟩
theorem Chg.wide {l h l' h' : Nat} {w w' : World} (p : Chg l h w w') (hl : l' ≤ l) (hh : h ≤ h') : Chg l' h' w w' :=
  ⟨p.os, p.tape, p.output, p.size, fun k hk ho => p.block k hk (by omega)⟩
theorem Chg.setCells {l h g : Nat} (h1 : l ≤ g) (h2 : g < h) : ∀ (us : List Value) {w0 w : World} {p : Nat}, Chg l h w0 w → Chg l h w0 (setCells w g p us)
  | [], _, _, _, q => q
  | u :: us, _, _, p, q => Chg.setCells h1 h2 us (q.setCell (p := ⟨g, p, none⟩) u h1 h2)

/-- a row of the call's own that lies above what turned stays -/
theorem own_chg {l h : Nat} {w w' : World} {B : Nat} {e : TypeId} {size : Nat} {v : Value} {n : Nat} {xs : List Value} (p : w.ownsRow B e size v n xs) (q : Chg l h w w') (hb : h ≤ B) : w'.ownsRow B e size v n xs := by
  obtain ⟨h1, h2⟩ := p
  refine ⟨h1, ?_⟩
  rcases h2 with h0 | ⟨g, cap, cur, hv, hB, hh, r⟩
  · exact .inl h0
  · have hg : g < w.heap.size := by
      rcases Nat.lt_or_ge g w.heap.size with h3 | h3
      · exact h3
      · rw [Array.getElem?_eq_none h3] at hh; cases hh
    exact .inr ⟨g, cap, cur, hv, hB, (q.block g hg (.inr (Nat.le_trans hb hB))).trans hh, r⟩
/-- a row of the call's own that lies below what turned stays -/
theorem own_low {l h E : Nat} {w w' : World} {B : Nat} {e : TypeId} {size : Nat} {v : Value} {n : Nat} {xs : List Value} (p : w.ownsRow B e size v n xs) (hE : ∀ g, v.ownBlock = some g → g < E) (q : Chg l h w w') (hl : E ≤ l) : w'.ownsRow B e size v n xs := by
  obtain ⟨h1, h2⟩ := p
  refine ⟨h1, ?_⟩
  rcases h2 with h0 | ⟨g, cap, cur, rfl, hB, hh, r⟩
  · exact .inl h0
  · have hg : g < w.heap.size := by
      rcases Nat.lt_or_ge g w.heap.size with h3 | h3
      · exact h3
      · rw [Array.getElem?_eq_none h3] at hh; cases hh
    exact .inr ⟨g, cap, cur, rfl, hB, (q.block g hg (.inl (Nat.lt_of_lt_of_le (hE g rfl) hl))).trans hh, r⟩
/-- a row is owned from its own block on -/
theorem own_base {w : World} {B g n c : Nat} {e : TypeId} {size m : Nat} {xs : List Value} (p : w.ownsRow B e size (.slice (some ⟨g, 0, none⟩) n c) m xs) : w.ownsRow g e size (.slice (some ⟨g, 0, none⟩) n c) m xs := by
  obtain ⟨h1, h2⟩ := p
  refine ⟨h1, ?_⟩
  rcases h2 with ⟨h0, _⟩ | ⟨g', cap, cur, hv, hB, r⟩
  · cases h0
  · have e : g = g' := by injection hv with a; injection a with a; injection a
    subst e
    exact .inr ⟨g, cap, cur, hv, Nat.le_refl _, r⟩
/-- the row's block lies below the heap's end -/
theorem own_lt {w : World} {B : Nat} {e : TypeId} {size : Nat} {v : Value} {n : Nat} {xs : List Value} (p : w.ownsRow B e size v n xs) : ∀ g, v.ownBlock = some g → g < w.heap.size := fun g hg => (p.lt g hg).2

theorem IntsAt.up {B : Nat} {w w1 : World} {A : Option Addr} {ns : List Int} (h : IntsAt w A ns) (hb : Below B w w1) (hB : w.heap.size ≤ B) : IntsAt w1 A ns := h.below (hb.mono hB)
theorem RowsAt.up {B : Nat} {w w1 : World} {k : Nat} {A : Option Addr} {css : List (List Value)} (h : RowsAt w k A css) (hb : Below B w w1) (hB : w.heap.size ≤ B) : RowsAt w1 k A css := h.below (hb.mono hB)

/-- numbers that rise by one -/
def countI (k : Int) (n : Nat) : List Int := (List.range n).map fun (i : Nat) => k + (i : Int)
theorem countI_length (k : Int) (n : Nat) : (countI k n).length = n := by simp [countI]
theorem countI_at {k : Int} {n i : Nat} (h : i < n) : (countI k n)[i]? = some (k + (i : Int)) := by
  unfold countI
  rw [List.getElem?_map, List.getElem?_range h]
  rfl
theorem countI_succ (k : Int) (n : Nat) : countI k (n + 1) = countI k n ++ [k + (n : Int)] := by
  unfold countI
  rw [List.range_succ, List.map_append]
  rfl
theorem count_set {k : Int} {ns : List Int} {j : Nat} (h : j < ns.length) : (countI k j ++ ns.drop j).set j (k + (j : Int)) = countI k (j + 1) ++ ns.drop (j + 1) := by
  rw [List.set_append_right _ _ (by rw [countI_length]; omega), countI_length, Nat.sub_self, List.drop_eq_getElem_cons h, List.set_cons_zero, countI_succ, List.append_assoc]
  rfl

end Go.Proofs.YtmfadjdpbobfhaaDoor
