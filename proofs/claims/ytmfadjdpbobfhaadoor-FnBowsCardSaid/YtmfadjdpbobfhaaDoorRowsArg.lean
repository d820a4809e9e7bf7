/- Arguments opened: slices of structs of one-cell fields. No program in sight. -/
import Derived.Test.YtmfadjdpbobfhaaDoorRowsKit
import Derived.Test.YtmfadjdpbobfhaaDoorArgs
import Derived.Deep.Slices
import Derived.Deep.Fields
import Derived.ChangeSame
namespace Go.Proofs.YtmfadjdpbobfhaaDoor
open Go.ChangeShapes Go.WideShapes Go.ChangeAt Go.RowKit Go.Deep
set_option linter.unusedVariables false

theorem all_map {α β : Type} {f : α → β} {q : α → Prop} : ∀ {l : List β}, (∀ c ∈ l, ∃ d, f d = c ∧ q d) → ∃ xs : List α, l = xs.map f ∧ ∀ x ∈ xs, q x
  | [], _ => ⟨[], rfl, fun _ h => by cases h⟩
  | c :: r, h => by
    obtain ⟨d, rfl, hq⟩ := h c (by simp)
    obtain ⟨xs, rfl, hx⟩ := all_map (f := f) (q := q) (l := r) (fun c hc => h c (by simp [hc]))
    exact ⟨d :: xs, rfl, fun x hx' => by
      rcases List.mem_cons.1 hx' with rfl | h2
      · exact hq
      · exact hx x h2⟩

section
variable {H : Type} {enc : TypeId × Value → H} {P : Program} {w : World} {base : Nat} {spare : Nat → Bool} {held : Bool}
/-- a struct of one-cell fields: its fields -/
theorem trod_fields {t : TypeId} {fs : Array Field} {fuel : Nat} {cs : List Value} {x : DataW H × List MemPlace} (ht : P.underlying t = some (.struct fs)) (hone : oneCellFields P fs = true)
    (h : DataW.trod enc P w base spare held fuel t cs = some x) : ∃ n, ∀ (i : Nat) (f : Field), fs[i]? = some f → ∃ y, DataW.trod enc P w base spare held n f.type ((cs.drop i).take 1) = some y := by
  obtain ⟨xs, n, _, _, _, hlen, hf⟩ := DataW.trod_struct ht h
  refine ⟨n, fun i f hi => ?_⟩
  obtain ⟨o, k⟩ := hone_of hone i f hi
  have hil : i < xs.length := by rw [hlen]; exact (Array.getElem?_eq_some_iff.1 hi).1
  have := hf i f hi
  rw [o, k, List.getElem?_eq_getElem hil] at this
  exact ⟨_, this⟩
end

section
variable {H : Type} {enc : TypeId × Value → H} {P : Program} {w : World} {base : Nat} {spare : Nat → Bool} {held : Bool}
/-- a slice of structs that came in: its elements' cells -/
theorem rows_arg {t e : TypeId} {k fuel : Nat} {cs : List Value} {x : DataW H × List MemPlace} (ht : P.underlying t = some (.slice e)) (hC : P.cellsOf e = k) (hk : 0 < k)
    (h : DataW.trod enc P w base spare held fuel t cs = some x) :
    ∃ (A : Option Addr) (c : Nat) (css : List (List Value)), cs = [.slice A css.length c] ∧ css.length ≤ maxLen ∧ RowsAt w k A css ∧ ∀ r ∈ css, r.length = k ∧ ∃ y n, DataW.trod enc P w base spare held n e r = some y := by
  rcases open_slice ht h with ⟨hcs, _⟩ | ⟨a, len, cap, m, n, D, Pl, hcs, hb, hl, hm, hmm, hx, hi⟩
  · exact ⟨none, 0, [], hcs, Nat.zero_le _, fun hne => absurd rfl hne, fun r hr => by cases hr⟩
  · have hlm : len ≤ m := by rw [hmm]; split <;> omega
    rw [hC] at hi
    have hex : ∀ i : Nat, ∃ cs' : List Value, i < len → w.cells? base (a.add (i * k)) k = some cs' ∧ DataW.trod enc P w base spare held n e cs' = some (D i, Pl i) := fun i => by
      by_cases h1 : i < len
      · obtain ⟨cs', h2⟩ := hi i (by omega)
        exact ⟨cs', fun _ => h2⟩
      · exact ⟨[], fun h2 => absurd h2 h1⟩
    obtain ⟨f, hf⟩ := Classical.axiomOfChoice hex
    have hlen : ((List.range len).map f).length = len := by simp
    refine ⟨some a, cap, (List.range len).map f, by rw [hlen]; exact hcs, by rw [hlen]; omega, fun hne => ?_, fun r hr => ?_⟩
    · have hp : 0 < len := by
        rcases Nat.eq_zero_or_pos len with h0 | h0
        · subst h0; exact absurd rfl hne
        · exact h0
      obtain ⟨b, off, spot⟩ := a
      have hall : ∀ i, i < len → ∀ j, j < k → w.cell? ((Addr.mk b off spot).add (i * k + j)) = (f i)[j]? := fun i hil j hj => by
        obtain ⟨_, hcl, hat⟩ := World.cells?_some (hf i hil).1
        rw [← Go.Deep.add_add]
        exact hat j hj
      have hfl : (f 0).length = k := (World.cells?_some (hf 0 hp).1).2.1
      have h00 := hall 0 hp 0 hk
      rw [List.getElem?_eq_getElem (by omega)] at h00
      have hspot : spot = none := by simpa [Addr.add] using World.cell?_spot h00
      subst hspot
      refine ⟨b, off, rfl, ?_, fun i cs' hi' j u hj => ?_⟩
      · exact World.block_lt_of_cell? w ⟨b, off, none⟩ (by simpa [Addr.add] using h00)
      · obtain ⟨hil, hv⟩ := List.getElem?_eq_some_iff.1 hi'
        rw [List.length_map, List.length_range] at hil
        have hv2 : f i = cs' := by simpa using hv
        have hjl : j < k := by
          have h1 := (List.getElem?_eq_some_iff.1 hj).1
          have h2 := (World.cells?_some (hf i hil).1).2.1
          rw [hv2] at h2
          omega
        have h3 := hall i hil j hjl
        rw [hv2, hj, Go.WideShapes.add_plain, ← Nat.add_assoc] at h3
        exact h3
    · obtain ⟨i, hir, rfl⟩ := List.mem_map.1 hr
      have hil := List.mem_range.1 hir
      exact ⟨(World.cells?_some (hf i hil).1).2.1, _, n, (hf i hil).2⟩
end

end Go.Proofs.YtmfadjdpbobfhaaDoor
