/- One struct more at the end of a nested row. No program in sight. -/
import Derived.Test.YtmfadjdpbobfhaaDoorNestR
namespace Go.Proofs.YtmfadjdpbobfhaaDoor
open Go.RowKit
set_option linter.unusedVariables false

section
variable {α : Type} {hd : α → List Value} {inn : α → List (List Value)} {k : Nat}
theorem NestR.snocG {w w7 w9 : World} {B : Nat} {T T' : TypeId} {g c g9 c9 n9 : Nat} {ps : List (Nat × Nat)} {vs : List α} {v : α} {p : Nat × Nat} {css : List Value}
    (N : NestR w B w.heap.size T T' k hd inn g c ps vs) (hb : Below w.heap.size w w7) (hg : w7.grownBy w9 (some g)) (hn9 : n9 = vs.length + 1)
    (ho : w9.ownsRow B T 4 (.slice (some ⟨g9, 0, none⟩) n9 c9) n9 css) (hcs : css = (rowsR hd inn vs ps).flatten ++ rowR hd inn v p) (hg9 : g9 = g ∨ g9 = w7.heap.size)
    (hp : w7.ownsRow p.1 T' k (.slice (some ⟨p.1, 0, none⟩) (inn v).length p.2) (inn v).length (inn v).flatten) (hpB : B ≤ p.1) (hpn : ∀ q ∈ ps, q.1 ≠ p.1) (hpg : p.1 ≠ g) : NestR w9 B w9.heap.size T T' k hd inn g9 c9 (ps ++ [p]) (vs ++ [v]) := by
  subst hn9 hcs
  have hpw : p.1 < w7.heap.size := (hp.lt _ rfl).2
  have hgl := N.gl
  have h79 : w7.heap.size ≤ w9.heap.size := hg.size
  have hww := hb.size
  refine ⟨?_, by simp [N.len], ?_, ?_, ⟨(ho.lt _ rfl).1, (ho.lt _ rfl).2, (ho.lt _ rfl).2⟩, ?_, ?_⟩
  · rw [rowsR_snoc N.len, List.flatten_append, List.length_append]
    simpa using ho
  · rw [List.map_append, List.nodup_append]
    refine ⟨N.apart, by simp, fun a ha b hb' => ?_⟩
    obtain ⟨q, hq, rfl⟩ := List.mem_map.1 ha
    have hb2 : b = p.1 := by simpa using hb'
    rw [hb2]
    exact hpn q hq
  · intro q hq
    rcases List.mem_append.1 hq with hq | hq
    · have h1 := N.gsl q hq
      have h2 := N.away q hq
      rcases hg9 with e | e
      · rw [e]; exact h2
      · omega
    · have : q = p := by simpa using hq
      subst this
      rcases hg9 with e | e <;> omega
  · intro q hq
    rcases List.mem_append.1 hq with hq | hq
    · have h1 := N.gsl q hq
      exact ⟨h1.1, by omega, by omega⟩
    · have : q = p := by simpa using hq
      subst this
      have := hgl.1
      exact ⟨by omega, by omega, by omega⟩
  · intro i v' q hv hq
    rcases Nat.lt_or_ge i vs.length with hlt | hge
    · rw [List.getElem?_append_left hlt] at hv
      rw [List.getElem?_append_left (by rw [N.len]; exact hlt)] at hq
      have h2 := N.away q (List.mem_of_getElem? hq)
      exact (own_below (N.inner i v' q hv hq) hb).kept hg (.inr (fun e => h2 (by simpa [Value.ownBlock] using e)))
    · have hi : i = vs.length := by
        have := (List.getElem?_eq_some_iff.1 hv).1
        simp at this
        omega
      subst hi
      rw [List.getElem?_append_right (Nat.le_refl _), Nat.sub_self] at hv
      rw [List.getElem?_append_right (by rw [N.len]; exact Nat.le_refl _), show vs.length - ps.length = 0 by rw [N.len]; omega] at hq
      simp at hv hq
      subst hv hq
      exact hp.kept hg (.inr (fun e => hpg (by simpa [Value.ownBlock] using e)))
theorem NestR.snoc {w w7 w9 : World} {B : Nat} {T T' : TypeId} {g c g9 c9 n9 : Nat} {ps : List (Nat × Nat)} {vs : List α} {v : α} {p : Nat × Nat} {css : List Value}
    (N : NestR w B w.heap.size T T' k hd inn g c ps vs) (hb : Below w.heap.size w w7) (hg : w7.grownBy w9 (some g)) (hn9 : n9 = vs.length + 1)
    (ho : w9.ownsRow B T 4 (.slice (some ⟨g9, 0, none⟩) n9 c9) n9 css) (hcs : css = (rowsR hd inn vs ps).flatten ++ rowR hd inn v p) (hg9 : g9 = g ∨ g9 = w7.heap.size)
    (hp : w7.ownsRow p.1 T' k (.slice (some ⟨p.1, 0, none⟩) (inn v).length p.2) (inn v).length (inn v).flatten) (hpl : w.heap.size ≤ p.1) : NestR w9 B w9.heap.size T T' k hd inn g9 c9 (ps ++ [p]) (vs ++ [v]) :=
  NestR.snocG N hb hg hn9 ho hcs hg9 hp (by have := N.gl; omega) (fun q hq => by have := N.gsl q hq; omega) (by have := N.gl; omega)
end

end Go.Proofs.YtmfadjdpbobfhaaDoor
