/- A row that is sorted in place: its cells, an exchange, what turns. No program in sight. -/
import Derived.Test.YtjeklbhdngkngaaSortM
import Derived.Test.YtjeklbhdngkngaaFrame
import Derived.Test.YtjeklbhdngkngaaKeepM
namespace Go.Proofs.Ytjeklbhdngkngaa
open Go.RowKit
set_option linter.unusedVariables false

section
variable {α : Type}
/-- a row of elements of K cells each, in block g, n elements -/
def DatAt (T : TypeId) (K : Nat) (enc : α → List Value) (B g cap n : Nat) (l : List α) (w : World) : Prop := w.ownsRow B T K (.slice (some ⟨g, 0, none⟩) n cap) n (l.map enc).flatten
variable {T : TypeId} {K : Nat} {enc : α → List Value} {B g cap n : Nat} {l : List α} {w : World}
theorem enc_all (henc : ∀ x, (enc x).length = K) (l : List α) : ∀ c ∈ l.map enc, c.length = K := fun c hc => by
  obtain ⟨x, _, rfl⟩ := List.mem_map.1 hc
  exact henc x
theorem DatAt.length (h : DatAt T K enc B g cap n l w) (henc : ∀ x, (enc x).length = K) (hK : 0 < K) : l.length = n := by
  have h1 := h.1
  rw [flatten_length (enc_all henc l), List.length_map] at h1
  exact Nat.eq_of_mul_eq_mul_right hK h1
theorem DatAt.below {w' : World} (h : DatAt T K enc B g cap n l w) (hb : Below w.heap.size w w') : DatAt T K enc B g cap n l w' := own_below h hb
theorem DatAt.drew (h : DatAt T K enc B g cap n l w) : DatAt T K enc B g cap n l w.drew := h
theorem DatAt.cell (h : DatAt T K enc B g cap n l w) (henc : ∀ x, (enc x).length = K) {i f : Nat} {x : α} {v : Value} (hi : l[i]? = some x) (hv : (enc x)[f]? = some v) : w.cell? ⟨g, i * K + f, none⟩ = some v := by
  have hf : f < K := by have := (List.getElem?_eq_some_iff.1 hv).1; rw [henc] at this; exact this
  have hl := h.length henc (by omega)
  have hil : i < n := by rw [← hl]; exact (List.getElem?_eq_some_iff.1 hi).1
  have hlt : i * K + f < n * K := by
    have := Nat.mul_le_mul_right K (show i + 1 ≤ n by omega)
    rw [Nat.succ_mul] at this
    omega
  rw [World.ownsRow.cellAt h _ hlt, flatten_at (enc_all henc l) (by rw [List.getElem?_map, hi]; rfl) hf]
  exact hv
theorem DatAt.swap (h : DatAt T K enc B g cap n l w) (henc : ∀ x, (enc x).length = K) {i j : Nat} {x y : α} (hi : i < l.length) (hj : j < l.length) : DatAt T K enc B g cap n ((l.set i y).set j x) (setCells (setCells w g (i * K) (enc y)) g (j * K) (enc x)) := by
  have h1 := own_setCells (enc x) (p := j * K) (own_setCells (enc y) (p := i * K) h)
  rw [setSeg_flatten (enc_all henc l) (by rw [List.length_map]; exact hi) (henc y)] at h1
  rw [← List.map_set, setSeg_flatten (enc_all henc _) (by rw [List.length_map, List.length_set]; exact hj) (henc x), ← List.map_set] at h1
  exact h1
theorem set_two {u v t : List α} {x y : α} : ((u ++ y :: (v ++ x :: t)).set u.length x).set (u.length + (v.length + 1)) y = u ++ x :: (v ++ y :: t) := by
  rw [List.set_append_right _ _ (Nat.le_refl _), Nat.sub_self, List.set_cons_zero, List.set_append_right _ _ (by omega), show u.length + (v.length + 1) - u.length = v.length + 1 by omega, List.set_cons_succ, List.set_append_right _ _ (Nat.le_refl _), Nat.sub_self, List.set_cons_zero]
theorem set_adj {u t : List α} {x y : α} : ((u ++ y :: x :: t).set (u.length + 1) y).set u.length x = u ++ x :: y :: t := by
  rw [List.set_append_right _ _ (by omega), show u.length + 1 - u.length = 1 by omega, List.set_cons_succ, List.set_cons_zero, List.set_append_right _ _ (Nat.le_refl _), Nat.sub_self, List.set_cons_zero]
theorem at_mid {u t : List α} {x : α} {i : Nat} (h : i = u.length) : (u ++ x :: t)[i]? = some x := by
  subst h
  rw [List.getElem?_append_right (Nat.le_refl _), Nat.sub_self]; rfl
end
end Go.Proofs.Ytjeklbhdngkngaa
