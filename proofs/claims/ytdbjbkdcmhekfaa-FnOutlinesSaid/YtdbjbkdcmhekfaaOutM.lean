/- FnOutlines: outlines that are moved or mirrored, in plain numbers. -/
import Derived.Test.YtdbjbkdcmhekfaaOutE
namespace Go.Proofs.Ytdbjbkdcmhekfaa
open Go.RowKit
set_option linter.unusedVariables false

def movA (p q : Int) (x : DArc) : DArc := ⟨x.cx + p, x.cy + q, x.fx + p, x.fy + q, x.tx + p, x.ty + q⟩
def mirA (x : DArc) : DArc := ⟨-x.cx, x.cy, -x.tx, x.ty, -x.fx, x.fy⟩
theorem mirA_mirA (x : DArc) : mirA (mirA x) = x := by cases x; simp [mirA]
def movL (p q : Int) (xs : List DArc) : List DArc := xs.map (movA p q)
def mirL (xs : List DArc) : List DArc := (xs.map mirA).reverse
theorem movL_len (p q : Int) (xs : List DArc) : (movL p q xs).length = xs.length := by simp [movL]
theorem mirL_len (xs : List DArc) : (mirL xs).length = xs.length := by simp [mirL]
theorem mirL_mirL (xs : List DArc) : mirL (mirL xs) = xs := by
  unfold mirL
  rw [List.map_reverse, List.reverse_reverse, List.map_map]
  conv => rhs; rw [← List.map_id xs]
  exact List.map_congr_left fun x _ => mirA_mirA x
theorem mirL_at {xs : List DArc} {i : Nat} (hi : i < xs.length) : (mirL xs)[i]? = (xs[xs.length - 1 - i]?).map mirA := by
  unfold mirL
  rw [List.getElem?_reverse (by simpa using hi), List.getElem?_map, List.length_map]
theorem mirL_of {xs : List DArc} {i : Nat} {x : DArc} (hx : xs[i]? = some x) : (mirL xs)[xs.length - 1 - i]? = some (mirA x) := by
  have hi := (List.getElem?_eq_some_iff.1 hx).1
  rw [mirL_at (by omega), show xs.length - 1 - (xs.length - 1 - i) = i by omega, hx]
  rfl
def SmC (a : Int) : Prop := -5000 ≤ a ∧ a ≤ 5000
structure ArcS (x : DArc) : Prop where
  cx : SmC x.cx
  cy : SmC x.cy
  fx : SmC x.fx
  fy : SmC x.fy
  tx : SmC x.tx
  ty : SmC x.ty
theorem sq_shift (a b c d p q : Int) : sqI (a + p) (b + q) (c + p) (d + q) = sqI a b c d := by
  unfold sqI
  rw [show a + p - (c + p) = a - c by omega, show b + q - (d + q) = b - d by omega]
theorem sq_neg (a b c d : Int) : sqI (-a) b (-c) d = sqI a b c d := by
  unfold sqI
  rw [show -a - -c = -(a - c) by omega, Int.neg_mul_neg]
theorem smB_mov (p q : Int) (x y : DArc) : smB (movA p q x) (movA p q y) = smB x y := by
  unfold smB movA
  dsimp only
  rw [show x.cx + p - (x.tx + p) = x.cx - x.tx by omega, show y.cy + q - (x.ty + q) = y.cy - x.ty by omega, show x.cy + q - (x.ty + q) = x.cy - x.ty by omega, show y.cx + p - (x.tx + p) = y.cx - x.tx by omega]
theorem smB_mir {x y : DArc} (h1 : y.fx = x.tx) (h2 : y.fy = x.ty) : smB (mirA y) (mirA x) = smB x y := by
  unfold smB mirA
  dsimp only
  rw [h1, h2, Bool.eq_iff_iff, beq_iff_eq, beq_iff_eq]
  rw [show (-y.cx - -x.tx) = -(y.cx - x.tx) by omega, show (-x.cx - -x.tx) = -(x.cx - x.tx) by omega, Int.neg_mul, Int.mul_neg, Int.neg_inj, Int.mul_comm (y.cx - x.tx), Int.mul_comm (y.cy - x.ty)]
  exact eq_comm
theorem rad_mov (p q : Int) (x : DArc) : radN (movA p q x) = radN x := sq_shift _ _ _ _ _ _
theorem rad_mir {x : DArc} (h : ArcOk x) : radN (mirA x) = radN x := (sq_neg _ _ _ _).trans h.one.symm
theorem arcOk_mov {p q : Int} {x : DArc} (h : ArcOk x) (hs : ArcS x) (hp : -1500 ≤ p ∧ p ≤ 1500) (hq : -1500 ≤ q ∧ q ≤ 1500) : ArcOk (movA p q x) := by
  obtain ⟨h1, h2, h3, h4, h5, h6⟩ := hs
  unfold SmC at *
  refine ⟨⟨?_, ?_, ?_, ?_, ?_, ?_⟩, ?_, ?_⟩
  · show InC (x.cx + p); unfold InC; omega
  · show InC (x.cy + q); unfold InC; omega
  · show InC (x.fx + p); unfold InC; omega
  · show InC (x.fy + q); unfold InC; omega
  · show InC (x.tx + p); unfold InC; omega
  · show InC (x.ty + q); unfold InC; omega
  · intro e
    have e1 : x.fx + p = x.tx + p := e.1
    have e2 : x.fy + q = x.ty + q := e.2
    exact h.two ⟨by omega, by omega⟩
  · exact (sq_shift _ _ _ _ _ _).trans (h.one.trans (sq_shift _ _ _ _ _ _).symm)
theorem arcOk_mir {x : DArc} (h : ArcOk x) : ArcOk (mirA x) := by
  obtain ⟨⟨h1, h2, h3, h4, h5, h6⟩, h7, h8⟩ := h
  unfold InC at *
  refine ⟨⟨?_, h2, ?_, h6, ?_, h4⟩, ?_, ?_⟩
  · show InC (-x.cx); unfold InC; omega
  · show InC (-x.tx); unfold InC; omega
  · show InC (-x.fx); unfold InC; omega
  · intro e
    have e1 : -x.tx = -x.fx := e.1
    have e2 : x.ty = x.fy := e.2
    exact h7 ⟨by omega, by omega⟩
  · exact (sq_neg _ _ _ _).trans (h8.symm.trans (sq_neg _ _ _ _).symm)
theorem nx_in {n i : Nat} (h : i + 1 < n) : nxK n i = i + 1 := Nat.mod_eq_of_lt h
theorem nx_end {n i : Nat} (h : i + 1 = n) : nxK n i = 0 := by unfold nxK; rw [h]; exact Nat.mod_self n
theorem outOk_mov {p q : Int} {xs : List DArc} (h : OutOk xs) (hs : ∀ x ∈ xs, ArcS x) (hp : -1500 ≤ p ∧ p ≤ 1500) (hq : -1500 ≤ q ∧ q ≤ 1500) : OutOk (movL p q xs) := by
  refine ⟨?_, by rw [movL_len]; exact h.n2, by rw [movL_len]; exact h.n16, ?_⟩
  · intro x hx
    obtain ⟨y, hy, rfl⟩ := List.mem_map.1 hx
    exact arcOk_mov (h.arcs y hy) (hs y hy) hp hq
  · intro i x y hx hy
    rw [movL_len] at hy
    unfold movL at hx hy
    rw [List.getElem?_map] at hx hy
    obtain ⟨a, ha, rfl⟩ := Option.map_eq_some_iff.1 hx
    obtain ⟨b, hb, rfl⟩ := Option.map_eq_some_iff.1 hy
    obtain ⟨e1, e2⟩ := h.chain i a b ha hb
    exact ⟨by show b.fx + p = a.tx + p; omega, by show b.fy + q = a.ty + q; omega⟩
/-- the joint of the list that a joint of the mirrored list comes from -/
def rxK (n i : Nat) : Nat := if i + 1 < n then n - 2 - i else n - 1
theorem rx_in {n i : Nat} (h : i + 1 < n) : rxK n i = n - 2 - i := by rw [rxK, if_pos h]
theorem rx_end {n i : Nat} (h : ¬ i + 1 < n) : rxK n i = n - 1 := by rw [rxK, if_neg h]
theorem mirL_joint {xs : List DArc} {i : Nat} {x y : DArc} (hx : (mirL xs)[i]? = some x) (hy : (mirL xs)[nxK xs.length i]? = some y) : ∃ a b, xs[rxK xs.length i]? = some a ∧ xs[nxK xs.length (rxK xs.length i)]? = some b ∧ x = mirA b ∧ y = mirA a := by
  have hi := (List.getElem?_eq_some_iff.1 hx).1
  rw [mirL_len] at hi
  have hj := nxK_lt (n := xs.length) (k := i) (by omega)
  rw [mirL_at hi] at hx
  rw [mirL_at hj] at hy
  obtain ⟨b, hb, rfl⟩ := Option.map_eq_some_iff.1 hx
  obtain ⟨a, ha, rfl⟩ := Option.map_eq_some_iff.1 hy
  refine ⟨a, b, ?_, ?_, rfl, rfl⟩
  · by_cases h : i + 1 < xs.length
    · rw [nx_in h] at ha
      rw [rxK, if_pos h, show xs.length - 2 - i = xs.length - 1 - (i + 1) by omega]
      exact ha
    · rw [nx_end (by omega)] at ha
      rw [rxK, if_neg h]
      exact ha
  · by_cases h : i + 1 < xs.length
    · rw [rxK, if_pos h, nx_in (by omega), show xs.length - 2 - i + 1 = xs.length - 1 - i by omega]
      exact hb
    · rw [rxK, if_neg h, nx_end (by omega)]
      rw [show xs.length - 1 - i = 0 by omega] at hb
      exact hb
theorem outOk_mir {xs : List DArc} (h : OutOk xs) : OutOk (mirL xs) := by
  refine ⟨?_, by rw [mirL_len]; exact h.n2, by rw [mirL_len]; exact h.n16, ?_⟩
  · intro x hx
    obtain ⟨y, hy, rfl⟩ := List.mem_map.1 (List.mem_reverse.1 hx)
    exact arcOk_mir (h.arcs y hy)
  · intro i x y hx hy
    rw [mirL_len] at hy
    obtain ⟨a, b, ha, hb, rfl, rfl⟩ := mirL_joint hx hy
    obtain ⟨e1, e2⟩ := h.chain _ a b ha hb
    exact ⟨by show -a.tx = -b.fx; omega, e2.symm⟩

/-- sums -/
def sumF (f : Nat → Int) : Nat → Int
  | 0 => 0
  | k + 1 => sumF f k + f k
theorem sumF_congr {f g : Nat → Int} : ∀ k : Nat, (∀ i, i < k → f i = g i) → sumF f k = sumF g k
  | 0, _ => rfl
  | k + 1, h => by rw [sumF, sumF, sumF_congr k fun i hi => h i (by omega), h k (by omega)]
theorem sumF_rev' (f : Nat → Int) (m : Nat) : ∀ k : Nat, k ≤ m → sumF (fun i => f (m - 1 - i)) k + sumF f (m - k) = sumF f m
  | 0, _ => by rw [sumF, Int.zero_add]; rfl
  | k + 1, h => by
    have h1 := sumF_rev' f m k (by omega)
    rw [show m - k = m - (k + 1) + 1 by omega, sumF] at h1
    rw [sumF, show m - 1 - k = m - (k + 1) by omega]
    omega
theorem sumF_rev (f : Nat → Int) (m : Nat) : sumF (fun i => f (m - 1 - i)) m = sumF f m := by
  have h := sumF_rev' f m m (Nat.le_refl _)
  rw [Nat.sub_self, sumF, Int.add_zero] at h
  exact h
theorem cornT_sum (xs : List DArc) : ∀ k : Nat, ((cornT xs k).length : Int) = sumF (fun i => if smAt xs i = true then 0 else 1) k
  | 0 => rfl
  | k + 1 => by
    rw [sumF, ← cornT_sum xs k, cornT]
    split
    · omega
    · rw [List.length_append, List.length_singleton]; omega
theorem areaT_sum (xs : List DArc) : ∀ k : Nat, areaT xs k = sumF (fun i => match xs[i]? with | some x => termA x | none => 0) k
  | 0 => rfl
  | k + 1 => by
    rw [areaT, sumF, areaT_sum xs k]
    first | done | rfl
theorem smAt_mir {xs : List DArc} (h : OutOk xs) {i : Nat} (hi : i < xs.length) : smAt (mirL xs) i = smAt xs (rxK xs.length i) := by
  have hj := nxK_lt (n := xs.length) (k := i) (by omega)
  obtain ⟨x, hx⟩ : ∃ x, (mirL xs)[i]? = some x := ⟨_, List.getElem?_eq_getElem (by rw [mirL_len]; exact hi)⟩
  obtain ⟨y, hy⟩ : ∃ y, (mirL xs)[nxK xs.length i]? = some y := ⟨_, List.getElem?_eq_getElem (by rw [mirL_len]; exact hj)⟩
  rw [smAt_of hx (by rw [mirL_len]; exact hy)]
  obtain ⟨a, b, ha, hb, rfl, rfl⟩ := mirL_joint hx hy
  obtain ⟨e1, e2⟩ := h.chain _ a b ha hb
  rw [smAt_of ha hb, smB_mir e1 e2]
theorem corners_mir {xs : List DArc} (h : OutOk xs) : (corners (mirL xs)).length = (corners xs).length := by
  have hn := h.n2
  obtain ⟨m, hm⟩ : ∃ m, xs.length = m + 1 := ⟨xs.length - 1, by omega⟩
  have e : ((corners (mirL xs)).length : Int) = ((corners xs).length : Int) := by
    unfold corners
    rw [cornT_sum, cornT_sum, mirL_len, hm, sumF, sumF]
    congr 1
    · rw [← sumF_rev]
      refine sumF_congr m fun i hi => ?_
      rw [smAt_mir h (by omega), rx_in (by omega), show xs.length - 2 - (m - 1 - i) = i by omega]
    · rw [smAt_mir h (by omega), rx_end (by omega), show xs.length - 1 = m by omega]
  omega
theorem smAt_mov (p q : Int) (xs : List DArc) (i : Nat) : smAt (movL p q xs) i = smAt xs i := by
  unfold smAt
  rw [movL_len]
  unfold movL
  rw [List.getElem?_map, List.getElem?_map]
  cases xs[i]? with
  | none => rfl
  | some x =>
    cases xs[nxK xs.length i]? with
    | none => rfl
    | some y => exact smB_mov p q x y
theorem cornT_mov (p q : Int) (xs : List DArc) : ∀ k : Nat, cornT (movL p q xs) k = cornT xs k
  | 0 => rfl
  | k + 1 => by rw [cornT, cornT, smAt_mov, cornT_mov p q xs k]
theorem corners_mov (p q : Int) (xs : List DArc) : corners (movL p q xs) = corners xs := by
  unfold corners
  rw [movL_len, cornT_mov]
theorem term_mir (x : DArc) : termA (mirA x) = termA x := by
  unfold termA mirA
  dsimp only
  rw [Int.neg_mul, Int.neg_mul]
  omega
theorem area_mir (xs : List DArc) : areaL (mirL xs) = areaL xs := by
  unfold areaL
  rw [areaT_sum, areaT_sum, mirL_len]
  refine (sumF_congr _ fun i hi => ?_).trans (sumF_rev _ _)
  show (match (mirL xs)[i]? with | some x => termA x | none => 0) = (match xs[xs.length - 1 - i]? with | some x => termA x | none => 0)
  rw [mirL_at hi]
  cases xs[xs.length - 1 - i]? with
  | none => rfl
  | some x => exact term_mir x
theorem term_mov (p q : Int) (x : DArc) : termA (movA p q x) = termA x + (q * x.fx - q * x.tx) + (p * x.ty - p * x.fy) := by
  unfold termA movA
  dsimp only
  rw [Int.add_mul, Int.add_mul, Int.mul_add, Int.mul_add, Int.mul_add, Int.mul_add, Int.mul_comm x.fx q, Int.mul_comm x.tx q]
  omega
theorem areaT_nx {xs : List DArc} {k : Nat} {x : DArc} (h : xs[k]? = some x) : areaT xs (k + 1) = areaT xs k + termA x := by rw [areaT, h]
theorem areaT_mov {p q : Int} {xs : List DArc} (h : OutOk xs) {z : DArc} (hz : xs[0]? = some z) : ∀ (k : Nat) (x : DArc), xs[k]? = some x → areaT (movL p q xs) (k + 1) = areaT xs (k + 1) + (q * z.fx - q * x.tx) + (p * x.ty - p * z.fy)
  | 0, x, hx => by
    rw [hz] at hx
    injection hx with hx
    subst hx
    have h1 : (movL p q xs)[0]? = some (movA p q z) := by unfold movL; rw [List.getElem?_map, hz]; rfl
    rw [areaT_nx h1, areaT_nx hz, areaT, areaT]
    have := term_mov p q z
    omega
  | k + 1, x, hx => by
    have hk := (List.getElem?_eq_some_iff.1 hx).1
    obtain ⟨y, hy⟩ : ∃ y, xs[k]? = some y := ⟨_, List.getElem?_eq_getElem (by omega)⟩
    have h1 : (movL p q xs)[k + 1]? = some (movA p q x) := by unfold movL; rw [List.getElem?_map, hx]; rfl
    have ih := areaT_mov (p := p) (q := q) h hz k y hy
    obtain ⟨e1, e2⟩ := h.chain k y x hy (by rw [nx_in hk]; exact hx)
    rw [areaT_nx h1, areaT_nx hx, ih]
    have := term_mov p q x
    rw [e1, e2] at this
    omega
theorem area_mov {p q : Int} {xs : List DArc} (h : OutOk xs) : areaL (movL p q xs) = areaL xs := by
  have hn := h.n2
  unfold areaL
  rw [movL_len]
  obtain ⟨m, hm⟩ : ∃ m, xs.length = m + 1 := ⟨xs.length - 1, by omega⟩
  obtain ⟨z, hz⟩ : ∃ z, xs[0]? = some z := ⟨_, List.getElem?_eq_getElem (by omega)⟩
  obtain ⟨x, hx⟩ : ∃ x, xs[m]? = some x := ⟨_, List.getElem?_eq_getElem (by omega)⟩
  obtain ⟨e1, e2⟩ := h.chain m x z hx (by rw [nx_end hm.symm]; exact hz)
  rw [hm, areaT_mov h hz m x hx, e1, e2]
  omega

/-- ovals -/
def ovalL (k m : Int) : List DArc := [⟨0, -4 * k, 3 * k + 3 * m, 4 * m, -(3 * k + 3 * m), 4 * m⟩, ⟨-3 * k, 0, -(3 * k + 3 * m), 4 * m, -(3 * k + 3 * m), -(4 * m)⟩, ⟨0, 4 * k, -(3 * k + 3 * m), -(4 * m), 3 * k + 3 * m, -(4 * m)⟩, ⟨3 * k, 0, 3 * k + 3 * m, -(4 * m), 3 * k + 3 * m, 4 * m⟩]
theorem sq_x {a b c d e : Int} (h : a - c = -(a - e)) : sqI a b c d = sqI a b e d := by
  unfold sqI
  rw [h, Int.neg_mul_neg]
theorem sq_y {a b c d e : Int} (h : b - d = -(b - e)) : sqI a b c d = sqI a b c e := by
  unfold sqI
  rw [h, Int.neg_mul_neg]
theorem oval_ok {k m : Int} (hk : 0 ≤ k ∧ k ≤ 900) (hm : 1 ≤ m ∧ m ≤ 900) : OutOk (ovalL k m) := by
  refine ⟨?_, by show 2 ≤ 4; omega, by show 4 ≤ 16; omega, ?_⟩
  · intro x hx
    simp only [ovalL, List.mem_cons, List.not_mem_nil, or_false] at hx
    rcases hx with rfl | rfl | rfl | rfl
    · refine ⟨⟨?_, ?_, ?_, ?_, ?_, ?_⟩, fun e => ?_, sq_x ?_⟩ <;> (try unfold InC) <;> (try dsimp only at *) <;> omega
    · refine ⟨⟨?_, ?_, ?_, ?_, ?_, ?_⟩, fun e => ?_, sq_y ?_⟩ <;> (try unfold InC) <;> (try dsimp only at *) <;> omega
    · refine ⟨⟨?_, ?_, ?_, ?_, ?_, ?_⟩, fun e => ?_, sq_x ?_⟩ <;> (try unfold InC) <;> (try dsimp only at *) <;> omega
    · refine ⟨⟨?_, ?_, ?_, ?_, ?_, ?_⟩, fun e => ?_, sq_y ?_⟩ <;> (try unfold InC) <;> (try dsimp only at *) <;> omega
  · intro i x y hx hy
    match i, hx, hy with
    | 0, hx, hy | 1, hx, hy | 2, hx, hy =>
      have hx1 := Option.some.inj hx
      have hy1 := Option.some.inj (show some _ = some y from hy)
      subst hx1 hy1
      exact ⟨rfl, rfl⟩
    | 3, hx, hy =>
      rw [show nxK (ovalL k m).length 3 = 0 from nx_end rfl] at hy
      have hx1 := Option.some.inj hx
      have hy1 := Option.some.inj (show some _ = some y from hy)
      subst hx1 hy1
      exact ⟨rfl, rfl⟩
    | i + 4, hx, hy => exact absurd (List.getElem?_eq_some_iff.1 hx).1 (by simp [ovalL])
theorem oval_small {k m : Int} (hk : 0 ≤ k ∧ k ≤ 300) (hm : 1 ≤ m ∧ m ≤ 300) : ∀ x ∈ ovalL k m, SmC x.cx ∧ SmC x.cy ∧ (-1800 ≤ x.fx ∧ x.fx ≤ 1800) ∧ (-1200 ≤ x.fy ∧ x.fy ≤ 1200) ∧ (-1800 ≤ x.tx ∧ x.tx ≤ 1800) ∧ (-1200 ≤ x.ty ∧ x.ty ≤ 1200) ∧ (-1200 ≤ x.cx ∧ x.cx ≤ 1200) ∧ (-1200 ≤ x.cy ∧ x.cy ≤ 1200) := by
  intro x hx
  simp only [ovalL, List.mem_cons, List.not_mem_nil, or_false] at hx
  unfold SmC
  rcases hx with rfl | rfl | rfl | rfl <;> (dsimp only; omega)
theorem mul34 (s m : Int) : (3 * s) * (4 * m) = (4 * s) * (3 * m) := by
  grind
theorem oval_corners (k m : Int) : corners (ovalL k m) = [] := by
  have h0 : smAt (ovalL k m) 0 = true := by
    show smB _ _ = true
    unfold smB
    rw [beq_iff_eq]
    dsimp only
    rw [show (0 : Int) - -(3 * k + 3 * m) = 3 * (k + m) by omega, show (0 : Int) - 4 * m = -(4 * m) by omega, show -4 * k - 4 * m = -(4 * (k + m)) by omega, show -3 * k - -(3 * k + 3 * m) = 3 * m by omega, Int.mul_neg, Int.neg_mul, mul34]
  have h1 : smAt (ovalL k m) 1 = true := by
    show smB _ _ = true
    unfold smB
    rw [beq_iff_eq]
    dsimp only
    rw [show -3 * k - -(3 * k + 3 * m) = 3 * m by omega, show 4 * k - -(4 * m) = 4 * (k + m) by omega, show (0 : Int) - -(4 * m) = 4 * m by omega, show (0 : Int) - -(3 * k + 3 * m) = 3 * (k + m) by omega, Int.mul_comm (3 * m), Int.mul_comm (4 * m), mul34]
  have h2 : smAt (ovalL k m) 2 = true := by
    show smB _ _ = true
    unfold smB
    rw [beq_iff_eq]
    dsimp only
    rw [show (0 : Int) - (3 * k + 3 * m) = -(3 * (k + m)) by omega, show (0 : Int) - -(4 * m) = 4 * m by omega, show 4 * k - -(4 * m) = 4 * (k + m) by omega, show 3 * k - (3 * k + 3 * m) = -(3 * m) by omega, Int.mul_neg, Int.neg_mul, mul34]
  have h3 : smAt (ovalL k m) 3 = true := by
    rw [smAt_of (xs := ovalL k m) (i := 3) rfl (show (ovalL k m)[nxK (ovalL k m).length 3]? = some _ by rw [show nxK (ovalL k m).length 3 = 0 from nx_end rfl]; rfl)]
    unfold smB
    rw [beq_iff_eq]
    dsimp only
    rw [show 3 * k - (3 * k + 3 * m) = -(3 * m) by omega, show -4 * k - 4 * m = -(4 * (k + m)) by omega, show (0 : Int) - 4 * m = -(4 * m) by omega, show (0 : Int) - (3 * k + 3 * m) = -(3 * (k + m)) by omega, Int.neg_mul_neg, Int.neg_mul_neg, Int.mul_comm (3 * m), Int.mul_comm (4 * m), mul34]
  show cornT (ovalL k m) 4 = []
  rw [cornT_yes h3, cornT_yes h2, cornT_yes h1, cornT_yes h0]
  rfl

/-- an outline as the reference draws it -/
structure DrwO (xs : List DArc) : Prop where
  ok : OutOk xs
  small : ∀ x ∈ xs, ArcS x
  len : xs.length ≤ 5
theorem drw_oval {k m : Int} (hk : 0 ≤ k ∧ k ≤ 299) (hm : 1 ≤ m ∧ m ≤ 300) : DrwO (ovalL k m) := by
  refine ⟨oval_ok ⟨hk.1, by omega⟩ ⟨hm.1, by omega⟩, fun x hx => ?_, by show 4 ≤ 5; omega⟩
  obtain ⟨h1, h2, h3, h4, h5, h6, h7, h8⟩ := oval_small ⟨hk.1, by omega⟩ hm x hx
  exact ⟨h1, h2, by unfold SmC; omega, by unfold SmC; omega, by unfold SmC; omega, by unfold SmC; omega⟩
/-- an arc with its center on the other side -/
def flipC (a : DArc) : DArc := ⟨a.fx + a.tx - a.cx, a.fy + a.ty - a.cy, a.fx, a.fy, a.tx, a.ty⟩
theorem drw_flip {k m : Int} (hk : 0 ≤ k ∧ k ≤ 299) (hm : 1 ≤ m ∧ m ≤ 300) {j : Nat} {a : DArc} (ha : (ovalL k m)[j]? = some a) : DrwO ((ovalL k m).set j (flipC a)) := by
  have h := drw_oval hk hm
  have hmem := List.mem_of_getElem? ha
  obtain ⟨-, -, g3, g4, g5, g6, g7, g8⟩ := oval_small ⟨hk.1, by omega⟩ hm a hmem
  have hs : ArcS (flipC a) := by
    refine ⟨?_, ?_, ?_, ?_, ?_, ?_⟩ <;> (unfold SmC flipC; dsimp only; omega)
  have hok : ArcOk (flipC a) := by
    refine ⟨?_, (h.ok.arcs a hmem).two, ?_⟩
    · refine ⟨?_, ?_, ?_, ?_, ?_, ?_⟩ <;> (unfold InC flipC; dsimp only; omega)
    · have h1 := (h.ok.arcs a hmem).one
      unfold sqI at h1 ⊢
      unfold flipC
      dsimp only
      rw [show a.fx + a.tx - a.cx - a.fx = -(a.cx - a.tx) by omega, show a.fy + a.ty - a.cy - a.fy = -(a.cy - a.ty) by omega, show a.fx + a.tx - a.cx - a.tx = -(a.cx - a.fx) by omega, show a.fy + a.ty - a.cy - a.ty = -(a.cy - a.fy) by omega, Int.neg_mul_neg, Int.neg_mul_neg, Int.neg_mul_neg, Int.neg_mul_neg]
      exact h1.symm
  have hat : ∀ (i : Nat) (x : DArc), ((ovalL k m).set j (flipC a))[i]? = some x → ∃ y, (ovalL k m)[i]? = some y ∧ x.fx = y.fx ∧ x.fy = y.fy ∧ x.tx = y.tx ∧ x.ty = y.ty := by
    intro i x hx
    rw [List.getElem?_set] at hx
    split at hx
    · rename_i e
      subst e
      split at hx
      · injection hx with hx
        subst hx
        exact ⟨a, ha, rfl, rfl, rfl, rfl⟩
      · cases hx
    · exact ⟨x, hx, rfl, rfl, rfl, rfl⟩
  refine ⟨⟨fun x hx => ?_, by rw [List.length_set]; exact h.ok.n2, by rw [List.length_set]; exact h.ok.n16, fun i x y hx hy => ?_⟩, fun x hx => ?_, by rw [List.length_set]; exact h.len⟩
  · rcases List.mem_or_eq_of_mem_set hx with h1 | rfl
    · exact h.ok.arcs x h1
    · exact hok
  · rw [List.length_set] at hy
    obtain ⟨x', hx', e1, e2, e3, e4⟩ := hat i x hx
    obtain ⟨y', hy', d1, d2, d3, d4⟩ := hat _ y hy
    obtain ⟨c1, c2⟩ := h.ok.chain i x' y' hx' hy'
    exact ⟨by rw [d1, e3, c1], by rw [d2, e4, c2]⟩
  · rcases List.mem_or_eq_of_mem_set hx with h1 | rfl
    · exact h.small x h1
    · exact hs
/-- an oval with its first arc in two -/
def cutL (k m : Int) : List DArc := [⟨0, -4 * k, 3 * k + 3 * m, 4 * m, 0, 5 * (k + m) - 4 * k⟩, ⟨0, -4 * k, 0, 5 * (k + m) - 4 * k, -(3 * k + 3 * m), 4 * m⟩] ++ (ovalL k m).drop 1
theorem sq345 (s : Int) : (3 * s) * (3 * s) + (4 * s) * (4 * s) = (5 * s) * (5 * s) := by
  grind
theorem drw_cut {k m : Int} (hk : 0 ≤ k ∧ k ≤ 299) (hm : 1 ≤ m ∧ m ≤ 300) : DrwO (cutL k m) := by
  have h := drw_oval hk hm
  have s0 : sqI 0 (-4 * k) 0 (5 * (k + m) - 4 * k) = (5 * (k + m)) * (5 * (k + m)) := by
    unfold sqI
    rw [show (0 : Int) - 0 = 0 by omega, show -4 * k - (5 * (k + m) - 4 * k) = -(5 * (k + m)) by omega, Int.neg_mul_neg, Int.zero_mul, Int.zero_add]
  have s1 : sqI 0 (-4 * k) (3 * k + 3 * m) (4 * m) = (5 * (k + m)) * (5 * (k + m)) := by
    rw [← sq345]
    unfold sqI
    rw [show (0 : Int) - (3 * k + 3 * m) = -(3 * (k + m)) by omega, show -4 * k - 4 * m = -(4 * (k + m)) by omega, Int.neg_mul_neg, Int.neg_mul_neg]
  have s2 : sqI 0 (-4 * k) (-(3 * k + 3 * m)) (4 * m) = (5 * (k + m)) * (5 * (k + m)) := by
    rw [← sq345]
    unfold sqI
    rw [show (0 : Int) - -(3 * k + 3 * m) = 3 * (k + m) by omega, show -4 * k - 4 * m = -(4 * (k + m)) by omega, Int.neg_mul_neg]
  refine ⟨⟨?_, ?_, ?_, ?_⟩, ?_, ?_⟩
  · intro x hx
    rcases List.mem_append.1 hx with h1 | h1
    · simp only [List.mem_cons, List.not_mem_nil, or_false] at h1
      rcases h1 with rfl | rfl
      · refine ⟨⟨?_, ?_, ?_, ?_, ?_, ?_⟩, fun e => ?_, s1.trans s0.symm⟩ <;> (try unfold InC) <;> (try dsimp only at *) <;> omega
      · refine ⟨⟨?_, ?_, ?_, ?_, ?_, ?_⟩, fun e => ?_, s0.trans s2.symm⟩ <;> (try unfold InC) <;> (try dsimp only at *) <;> omega
    · exact h.ok.arcs x (List.mem_of_mem_drop h1)
  · show 2 ≤ 5; omega
  · show 5 ≤ 16; omega
  · intro i x y hx hy
    match i, hx, hy with
    | 0, hx, hy | 1, hx, hy | 2, hx, hy | 3, hx, hy =>
      have hx1 := Option.some.inj hx
      have hy1 := Option.some.inj (show some _ = some y from hy)
      subst hx1 hy1
      exact ⟨rfl, rfl⟩
    | 4, hx, hy =>
      rw [show nxK (cutL k m).length 4 = 0 from nx_end rfl] at hy
      have hx1 := Option.some.inj hx
      have hy1 := Option.some.inj (show some _ = some y from hy)
      subst hx1 hy1
      exact ⟨rfl, rfl⟩
    | i + 5, hx, hy => exact absurd (List.getElem?_eq_some_iff.1 hx).1 (by simp [cutL, ovalL])
  · intro x hx
    rcases List.mem_append.1 hx with h1 | h1
    · simp only [List.mem_cons, List.not_mem_nil, or_false] at h1
      rcases h1 with rfl | rfl
      · refine ⟨?_, ?_, ?_, ?_, ?_, ?_⟩ <;> unfold SmC <;> dsimp only <;> omega
      · refine ⟨?_, ?_, ?_, ?_, ?_, ?_⟩ <;> unfold SmC <;> dsimp only <;> omega
    · exact h.small x (List.mem_of_mem_drop h1)
  · show 5 ≤ 5; omega
/-- two halves of a circle -/
def halfL (r : Int) : List DArc := [⟨0, 0, r, 0, -r, 0⟩, ⟨0, 0, -r, 0, r, 0⟩]
theorem drw_half {r : Int} (h : 1 ≤ r ∧ r ≤ 1500) : DrwO (halfL r) := by
  have hx' : ∀ x ∈ halfL r, ArcS x ∧ ArcOk x := by
    intro x hx
    simp only [halfL, List.mem_cons, List.not_mem_nil, or_false] at hx
    rcases hx with rfl | rfl
    · refine ⟨⟨?_, ?_, ?_, ?_, ?_, ?_⟩, ⟨?_, ?_, ?_, ?_, ?_, ?_⟩, fun e => ?_, sq_x ?_⟩ <;> (try unfold SmC) <;> (try unfold InC) <;> (try dsimp only at *) <;> omega
    · refine ⟨⟨?_, ?_, ?_, ?_, ?_, ?_⟩, ⟨?_, ?_, ?_, ?_, ?_, ?_⟩, fun e => ?_, sq_x ?_⟩ <;> (try unfold SmC) <;> (try unfold InC) <;> (try dsimp only at *) <;> omega
  refine ⟨⟨fun x hx => (hx' x hx).2, ?_, ?_, ?_⟩, fun x hx => (hx' x hx).1, ?_⟩
  · show 2 ≤ 2; omega
  · show 2 ≤ 16; omega
  · intro i x y hx hy
    match i, hx, hy with
    | 0, hx, hy =>
      have hx1 := Option.some.inj hx
      have hy1 := Option.some.inj (show some _ = some y from hy)
      subst hx1 hy1
      exact ⟨rfl, rfl⟩
    | 1, hx, hy =>
      rw [show nxK (halfL r).length 1 = 0 from nx_end rfl] at hy
      have hx1 := Option.some.inj hx
      have hy1 := Option.some.inj (show some _ = some y from hy)
      subst hx1 hy1
      exact ⟨rfl, rfl⟩
    | i + 2, hx, hy => exact absurd (List.getElem?_eq_some_iff.1 hx).1 (by simp [halfL])
  · show 2 ≤ 5; omega

end Go.Proofs.Ytdbjbkdcmhekfaa
