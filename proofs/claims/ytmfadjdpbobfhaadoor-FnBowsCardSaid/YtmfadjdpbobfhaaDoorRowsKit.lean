/- Slices of structs, k cells an element: reading, owning, storing an element. No program in sight. -/
import Derived.Test.YtmfadjdpbobfhaaDoorKit
import Derived.Laws.MakeOwn
import Derived.Laws.OwnMore
namespace Go.Proofs.YtmfadjdpbobfhaaDoor
open Go.RowKit
set_option linter.unusedVariables false

section lists
variable {α : Type}
theorem flatten_at {k : Nat} : ∀ {css : List (List α)} {i j : Nat} {cs : List α}, (∀ c ∈ css, c.length = k) → css[i]? = some cs → j < k → css.flatten[i * k + j]? = cs[j]?
  | [], i, j, cs, _, h, _ => by simp at h
  | c :: r, 0, j, cs, hk, h, hj => by
    have hc := hk c (by simp)
    simp at h
    subst h
    rw [Nat.zero_mul, Nat.zero_add, List.flatten_cons, List.getElem?_append_left (by omega)]
  | c :: r, i + 1, j, cs, hk, h, hj => by
    have hc := hk c (by simp)
    simp at h
    have e : (i + 1) * k + j - c.length = i * k + j := by rw [Nat.succ_mul]; omega
    rw [List.flatten_cons, List.getElem?_append_right (by rw [Nat.succ_mul]; omega), e]
    exact flatten_at (fun c hc => hk c (by simp [hc])) h hj
theorem flatten_length {k : Nat} : ∀ {css : List (List α)}, (∀ c ∈ css, c.length = k) → css.flatten.length = css.length * k
  | [], _ => by simp
  | c :: r, hk => by
    rw [List.flatten_cons, List.length_append, flatten_length (fun c hc => hk c (by simp [hc])), hk c (by simp), List.length_cons, Nat.succ_mul]
    omega
/-- us laid over xs from place p on -/
def setSeg (xs : List α) (p : Nat) : List α → List α
  | [] => xs
  | u :: us => setSeg (xs.set p u) (p + 1) us
theorem setSeg_right : ∀ (us : List α) (c R : List α) (p : Nat), c.length ≤ p → setSeg (c ++ R) p us = c ++ setSeg R (p - c.length) us
  | [], _, _, _, _ => rfl
  | u :: us, c, R, p, h => by
    have e : p + 1 - c.length = p - c.length + 1 := by omega
    show setSeg ((c ++ R).set p u) (p + 1) us = c ++ setSeg (R.set (p - c.length) u) (p - c.length + 1) us
    rw [List.set_append_right _ _ h, setSeg_right us c _ (p + 1) (by omega), e]
theorem setSeg_over : ∀ (us c pre R : List α), us.length = c.length → setSeg (pre ++ (c ++ R)) pre.length us = pre ++ (us ++ R)
  | [], [], pre, R, _ => by simp [setSeg]
  | [], _ :: _, _, _, h => by simp at h
  | _ :: _, [], _, _, h => by simp at h
  | u :: us, x :: c, pre, R, h => by
    have h2 := setSeg_over us c (pre ++ [u]) R (by simpa using h)
    rw [List.length_append, List.length_singleton] at h2
    show setSeg ((pre ++ (x :: c ++ R)).set pre.length u) (pre.length + 1) us = _
    rw [List.set_append_right _ _ (Nat.le_refl _), Nat.sub_self]
    show setSeg (pre ++ (u :: (c ++ R))) (pre.length + 1) us = _
    have e : pre ++ (u :: (c ++ R)) = pre ++ [u] ++ (c ++ R) := by simp
    rw [e, h2]
    simp
theorem setSeg_flatten {k : Nat} : ∀ {css : List (List α)} {i : Nat} {us : List α}, (∀ c ∈ css, c.length = k) → i < css.length → us.length = k → setSeg css.flatten (i * k) us = (css.set i us).flatten
  | [], i, us, _, h, _ => by simp at h
  | c :: r, 0, us, hk, _, hu => by
    have hc := hk c (by simp)
    have h := setSeg_over us c [] r.flatten (by omega)
    simpa using h
  | c :: r, i + 1, us, hk, h, hu => by
    have hc := hk c (by simp)
    have e : (i + 1) * k - c.length = i * k := by rw [Nat.succ_mul]; omega
    rw [List.flatten_cons, setSeg_right us c _ _ (by rw [Nat.succ_mul]; omega), e, setSeg_flatten (fun c hc => hk c (by simp [hc])) (by simpa using h) hu]
    simp
theorem setSeg_append : ∀ (us vs xs : List α) (p : Nat), setSeg (setSeg xs p us) (p + us.length) vs = setSeg xs p (us ++ vs)
  | [], _, _, _ => rfl
  | u :: us, vs, xs, p => by
    have e : p + (us.length + 1) = p + 1 + us.length := by omega
    show setSeg (setSeg (xs.set p u) (p + 1) us) (p + (us.length + 1)) vs = setSeg (xs.set p u) (p + 1) (us ++ vs)
    rw [e]
    exact setSeg_append us vs _ _
/-- a copy that has come as far as k -/
theorem copyRows_set {css : List (List α)} {z : List α} {k : Nat} (h : k < css.length) : (css.take k ++ List.replicate (css.length - k) z).set k css[k] = css.take (k + 1) ++ List.replicate (css.length - (k + 1)) z := by
  rw [List.set_append_right _ _ (by rw [List.length_take]; omega), List.length_take, List.take_succ_eq_append_getElem h, List.append_assoc]
  have e : k - min k css.length = 0 := by omega
  have e2 : css.length - k = (css.length - (k + 1)) + 1 := by omega
  rw [e, e2, List.replicate_succ, List.set_cons_zero]
  rfl
end lists

theorem own_mono {w : World} {B B' : Nat} {e : TypeId} {size : Nat} {v : Value} {n : Nat} {xs : List Value} (h : w.ownsRow B e size v n xs) (hB : B' ≤ B) : w.ownsRow B' e size v n xs := by
  obtain ⟨h1, h2⟩ := h
  refine ⟨h1, ?_⟩
  rcases h2 with h0 | ⟨g, cap, cur, hv, hb, r⟩
  · exact .inl h0
  · exact .inr ⟨g, cap, cur, hv, Nat.le_trans hB hb, r⟩

/-- a slice of structs, k cells an element: nil, empty or not -/
def RowsAt (w : World) (k : Nat) (A : Option Addr) (css : List (List Value)) : Prop :=
  css ≠ [] → ∃ b o, A = some ⟨b, o, none⟩ ∧ b < w.heap.size ∧ ∀ i cs, css[i]? = some cs → ∀ j u, cs[j]? = some u → w.cell? ⟨b, o + i * k + j, none⟩ = some u
theorem RowsAt.below {w w1 : World} {k : Nat} {A : Option Addr} {css : List (List Value)} (h : RowsAt w k A css) (hb : Below w.heap.size w w1) : RowsAt w1 k A css := fun hn => by
  obtain ⟨b, o, rfl, hlt, hc⟩ := h hn
  exact ⟨b, o, rfl, Nat.lt_of_lt_of_le hlt hb.size, fun i cs hi j u hj => (hb.cell (p := ⟨b, _, none⟩) hlt).trans (hc i cs hi j u hj)⟩

theorem RowsAt.at0 {w : World} {k g : Nat} {css : List (List Value)} (h : RowsAt w k (some ⟨g, 0, none⟩) css) (i : Nat) {cs : List Value} (hi : css[i]? = some cs) {u : Value} (hu : cs[0]? = some u) : w.cell? ⟨g, i * k, none⟩ = some u := by
  obtain ⟨b, o, hb, _, hc⟩ := h (by intro e; rw [e] at hi; simp at hi)
  injection hb with hb
  injection hb with hb ho
  subst hb ho
  have := hc i cs hi 0 u hu
  rwa [Nat.zero_add, Nat.add_zero] at this
theorem rows_own {w : World} {B k : Nat} {e : TypeId} {A : Option Addr} {n c : Nat} {css : List (List Value)} (h : w.ownsRow B e k (.slice A n c) n css.flatten) (hn : css.length = n) (hk : ∀ cs ∈ css, cs.length = k) : RowsAt w k A css := fun hne => by
  have hp : 0 < n := by rw [← hn]; cases css; exact absurd rfl hne; simp
  obtain ⟨g, cap, hv, _, hg, _⟩ := own_form h hp
  injection hv with hA _ hcap
  subst hA hcap
  refine ⟨g, 0, rfl, hg, fun i cs hi j u hj => ?_⟩
  have hil : i < css.length := (List.getElem?_eq_some_iff.1 hi).1
  have hcs := hk cs (List.mem_of_getElem? hi)
  have hjl : j < cs.length := (List.getElem?_eq_some_iff.1 hj).1
  have hlt : i * k + j < n * k := by
    have := Nat.mul_le_mul_right k (show i + 1 ≤ n by omega)
    rw [Nat.succ_mul] at this
    omega
  rw [Nat.zero_add, h.cellAt (i * k + j) hlt, flatten_at hk hi (by omega), hj]

/-- cells stored one behind the other -/
def setCells (w : World) (g p : Nat) : List Value → World
  | [] => w
  | u :: us => setCells (w.setCell ⟨g, p, none⟩ u) g (p + 1) us
theorem own_setCells {B k : Nat} {e : TypeId} {g n cap : Nat} : ∀ (us : List Value) {w : World} {p : Nat} {xs : List Value}, w.ownsRow B e k (.slice (some ⟨g, 0, none⟩) n cap) n xs →
    (setCells w g p us).ownsRow B e k (.slice (some ⟨g, 0, none⟩) n cap) n (setSeg xs p us)
  | [], _, _, _, h => h
  | u :: us, _, p, _, h => own_setCells us (h.stored p u).1
theorem below_setCells {B g : Nat} (hg : B ≤ g) : ∀ (us : List Value) {w w0 : World} {p : Nat}, Below B w0 w → Below B w0 (setCells w g p us)
  | [], _, _, _, h => h
  | u :: us, _, _, p, h => below_setCells hg us (h.setCell (p := ⟨g, p, none⟩) hg u)

theorem made_rows (z : Array Value) (n k : Nat) (hz : z.size = k) (hk : 0 < k) : (madeCells z (n * k)).toList = (List.replicate n z.toList).flatten := by
  have hl : ∀ c ∈ List.replicate n z.toList, c.length = k := fun c hc => by rw [List.eq_of_mem_replicate hc]; simpa using hz
  apply List.ext_getElem?
  intro q
  rcases Nat.lt_or_ge q (n * k) with h | h
  · have h1 : q / k < n := (Nat.div_lt_iff_lt_mul hk).2 h
    have h2 : q % k < k := Nat.mod_lt _ hk
    have h3 : q / k * k + q % k = q := by rw [Nat.mul_comm]; exact Nat.div_add_mod q k
    have h4 := flatten_at (i := q / k) (j := q % k) (cs := z.toList) hl (by rw [List.getElem?_replicate, if_pos h1]) h2
    rw [h3] at h4
    rw [h4]
    have h5 : q % k < z.size := by omega
    simp only [madeCells, hz]
    rw [Array.toList_map, List.getElem?_map]
    simp [h, Array.getElem!_eq_getD, Array.getD, h5]
  · rw [List.getElem?_eq_none (by simp [madeCells]; exact h), List.getElem?_eq_none (by rw [flatten_length hl]; simpa using h)]

end Go.Proofs.YtmfadjdpbobfhaaDoor
