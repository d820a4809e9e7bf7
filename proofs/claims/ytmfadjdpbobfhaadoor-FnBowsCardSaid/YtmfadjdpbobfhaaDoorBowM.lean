/- FnBows: bows in plain numbers. -/
import Derived.Test.YtmfadjdpbobfhaaDoorPartO
import Derived.Test.YtmfadjdpbobfhaaDoorReadyMath
import Derived.Test.YtmfadjdpbobfhaaDoorRowsKit
namespace Go.Proofs.YtmfadjdpbobfhaaDoor
open Go.RowKit
set_option linter.unusedVariables false

structure DPart where
  fId : ByteArray
  fAt : Int
  fMass : Int
def DPart.cells (x : DPart) : List Value := [.string x.fId, .int .i64 x.fAt, .int .i64 x.fMass]
theorem cellsPart_len (xs : List DPart) : ∀ c ∈ xs.map DPart.cells, c.length = 3 := fun c hc => by
  obtain ⟨x, _, rfl⟩ := List.mem_map.1 hc
  rfl
/-- a part as the reference draws it -/
structure PartS (x : DPart) : Prop where
  nm : nameB x.fId = true
  size : x.fId.size ≤ 10
  at0 : 0 ≤ x.fAt
  at1 : x.fAt ≤ 800
  m0 : 1 ≤ x.fMass
  m1 : x.fMass ≤ 40000
theorem PartS.valid {x : DPart} (h : PartS x) : partB x.fId x.fAt x.fMass = true := by
  obtain ⟨h1, h2, h3, h4, h5, h6⟩ := h
  simp only [partB, Bool.and_eq_true, inB_iff]
  exact ⟨h1, ⟨h3, by omega⟩, h5, by omega⟩
/-- a bow as the reference draws it -/
structure DrwB (xs : List DPart) : Prop where
  one : ∀ x ∈ xs, PartS x
  up : ∀ (i j : Nat) (x y : DPart), xs[i]? = some x → xs[j]? = some y → i < j → Op.bytesLess x.fId.toList y.fId.toList = true
  n1 : 1 ≤ xs.length
  n6 : xs.length ≤ 6
theorem mulP {a b : Int} {M N : Nat} (ha : 0 ≤ a ∧ a ≤ M) (hb : 0 ≤ b ∧ b ≤ N) : 0 ≤ a * b ∧ a * b ≤ ((M * N : Nat) : Int) := by
  refine ⟨Int.mul_nonneg ha.1 hb.1, ?_⟩
  have h := Int.mul_le_mul ha.2 hb.2 hb.1 (by omega)
  rw [Int.natCast_mul]
  exact h
/-- sums over a bow -/
def sumB (f : DPart → Int) (xs : List DPart) : Nat → Int
  | 0 => 0
  | k + 1 => sumB f xs k + (match xs[k]? with | some x => f x | none => 0)
theorem sumB_next {f : DPart → Int} {xs : List DPart} {k : Nat} {x : DPart} (h : xs[k]? = some x) : sumB f xs (k + 1) = sumB f xs k + f x := by rw [sumB, h]
theorem sumB_bd {f : DPart → Int} {xs : List DPart} {M : Int} (hM : 0 ≤ M) (h : ∀ x ∈ xs, 0 ≤ f x ∧ f x ≤ M) : ∀ k : Nat, 0 ≤ sumB f xs k ∧ sumB f xs k ≤ (k : Int) * M
  | 0 => by unfold sumB; omega
  | k + 1 => by
    have ih := sumB_bd hM h k
    have e : (((k + 1 : Nat) : Int)) * M = (k : Int) * M + M := by rw [Int.natCast_add, Int.add_mul]; omega
    rw [sumB, e]
    split
    · rename_i x hx
      have := h x (List.mem_of_getElem? hx)
      omega
    · omega
theorem sumB_ge {f : DPart → Int} {xs : List DPart} (h : ∀ x ∈ xs, 0 ≤ f x) {j : Nat} {y : DPart} (hy : xs[j]? = some y) : ∀ k : Nat, j < k → f y ≤ sumB f xs k
  | 0, h0 => absurd h0 (by omega)
  | k + 1, h0 => by
    have hnn : ∀ k : Nat, 0 ≤ sumB f xs k := by
      intro k
      induction k with
      | zero => unfold sumB; omega
      | succ k ih =>
        rw [sumB]
        split
        · rename_i x hx
          have := h x (List.mem_of_getElem? hx)
          omega
        · omega
    rcases Nat.lt_or_ge j k with h1 | h1
    · have ih := sumB_ge h hy k h1
      rw [sumB]
      split
      · rename_i x hx
        have := h x (List.mem_of_getElem? hx)
        omega
      · omega
    · have e : j = k := by omega
      subst e
      rw [sumB_next hy]
      have := hnn j
      omega
def massP (x : DPart) : Int := x.fMass
def momP (x : DPart) : Int := x.fMass * x.fAt
def inerP (a : Int) (x : DPart) : Int := x.fMass * (x.fAt - a) * (x.fAt - a)
def massL (xs : List DPart) : Int := sumB massP xs xs.length
def momL (xs : List DPart) : Int := sumB momP xs xs.length
theorem mom_one {x : DPart} (h : PartS x) : 0 ≤ momP x ∧ momP x ≤ 32000000 := by
  obtain ⟨h1, h2, h3, h4, h5, h6⟩ := h
  have := mulP (a := x.fMass) (b := x.fAt) (M := 40000) (N := 800) (by omega) (by omega)
  unfold momP
  omega
theorem mass_one {x : DPart} (h : PartS x) : 0 ≤ massP x ∧ massP x ≤ 40000 := by
  obtain ⟨h1, h2, h3, h4, h5, h6⟩ := h
  unfold massP
  omega
theorem sq_bd {d : Int} (h : -800 ≤ d ∧ d ≤ 800) : 0 ≤ d * d ∧ d * d ≤ 640000 := by
  rcases Int.lt_or_le d 0 with h1 | h1
  · have := mulP (a := -d) (b := -d) (M := 800) (N := 800) (by omega) (by omega)
    rw [Int.neg_mul_neg] at this
    omega
  · have := mulP (a := d) (b := d) (M := 800) (N := 800) (by omega) (by omega)
    omega
theorem iner_one {x : DPart} {a : Int} (h : PartS x) (ha : 0 ≤ a ∧ a ≤ 800) : 0 ≤ inerP a x ∧ inerP a x ≤ 25600000000 := by
  obtain ⟨h1, h2, h3, h4, h5, h6⟩ := h
  have h7 := sq_bd (d := x.fAt - a) (by omega)
  have := mulP (a := x.fMass) (b := (x.fAt - a) * (x.fAt - a)) (M := 40000) (N := 640000) (by omega) (by omega)
  unfold inerP
  rw [Int.mul_assoc]
  omega
theorem mass_bd {xs : List DPart} (h : DrwB xs) (k : Nat) (hk : k ≤ xs.length) : 0 ≤ sumB massP xs k ∧ sumB massP xs k ≤ 240000 := by
  have h1 := sumB_bd (f := massP) (M := 40000) (by omega) (fun x hx => mass_one (h.one x hx)) k
  have := h.n6
  omega
theorem mom_bd {xs : List DPart} (h : DrwB xs) (k : Nat) (hk : k ≤ xs.length) : 0 ≤ sumB momP xs k ∧ sumB momP xs k ≤ 192000000 := by
  have h1 := sumB_bd (f := momP) (M := 32000000) (by omega) (fun x hx => mom_one (h.one x hx)) k
  have := h.n6
  omega
theorem iner_bd {xs : List DPart} {a : Int} (h : DrwB xs) (ha : 0 ≤ a ∧ a ≤ 800) (k : Nat) (hk : k ≤ xs.length) : 0 ≤ sumB (inerP a) xs k ∧ sumB (inerP a) xs k ≤ 153600000000 := by
  have h1 := sumB_bd (f := inerP a) (M := 25600000000) (by omega) (fun x hx => iner_one (h.one x hx) ha) k
  have := h.n6
  omega
theorem massL_pos {xs : List DPart} (h : DrwB xs) : 1 ≤ massL xs := by
  have hn := h.n1
  obtain ⟨x, hx⟩ : ∃ x, xs[0]? = some x := ⟨_, List.getElem?_eq_getElem (by omega)⟩
  have h1 := sumB_ge (f := massP) (fun y hy => (mass_one (h.one y hy)).1) hx xs.length (by omega)
  have h2 := (h.one x (List.mem_of_getElem? hx)).m0
  unfold massL
  unfold massP at h1 ⊢
  omega
/-- one part's moment is no more than all -/
theorem mom_in {xs : List DPart} (h : DrwB xs) {k : Nat} {x : DPart} (hx : xs[k]? = some x) : momP x ≤ momL xs :=
  sumB_ge (fun y hy => (mom_one (h.one y hy)).1) hx _ (List.getElem?_eq_some_iff.1 hx).1
/-- rounded quotients are near -/
theorem divR_near {a b : Int} (ha : 0 ≤ a) (hb : 0 < b) : -b ≤ 2 * (divR a b * b - a) ∧ 2 * (divR a b * b - a) ≤ b := by
  unfold divR
  rw [if_neg (by omega)]
  have h1 := Int.mul_ediv_add_emod (2 * a + b) (2 * b)
  have h2 := Int.emod_nonneg (2 * a + b) (b := 2 * b) (by omega)
  have h3 := Int.emod_lt_of_pos (2 * a + b) (b := 2 * b) (by omega)
  generalize (2 * a + b) / (2 * b) = q at *
  rw [Int.mul_assoc] at h1
  rw [Int.mul_comm q b]
  omega
/-- a quotient that is rounded up is just enough -/
theorem up_enough {n d : Int} (hn : 0 < n) (hd : 0 < d) : n ≤ (n + d - 1) / d * d ∧ ((n + d - 1) / d - 1) * d < n ∧ 1 ≤ (n + d - 1) / d := by
  have h1 := Int.mul_ediv_add_emod (n + d - 1) d
  have h2 := Int.emod_nonneg (n + d - 1) (b := d) (by omega)
  have h3 := Int.emod_lt_of_pos (n + d - 1) (b := d) hd
  have h4 : 1 ≤ (n + d - 1) / d := by
    have := (Int.le_ediv_iff_mul_le (a := 1) (b := n + d - 1) hd).2 (by omega)
    exact this
  generalize (n + d - 1) / d = q at *
  rw [Int.sub_mul, Int.one_mul, Int.mul_comm q d]
  omega
/-- AddedMass -/
theorem added_ok {mom mass a g n : Int} (hd : 0 < a - g) (hneed : 0 < g * mass - mom) (hn : n = (g * mass - mom + a - g - 1) / (a - g)) : 1 ≤ n ∧ g * (mass + n) ≤ mom + n * a ∧ mom + (n - 1) * a < g * (mass + n - 1) := by
  obtain ⟨h1, h2, h3⟩ := up_enough hneed hd
  rw [show g * mass - mom + (a - g) - 1 = g * mass - mom + a - g - 1 by omega, ← hn] at h1 h2 h3
  refine ⟨h3, ?_, ?_⟩
  · rw [Int.mul_add]
    rw [Int.mul_sub] at h1
    rw [Int.mul_comm g n]
    omega
  · rw [Int.mul_sub] at h2
    rw [show mass + n - 1 = mass + (n - 1) by omega, Int.mul_add, Int.mul_comm g (n - 1)]
    omega
/-- MovedPart -/
theorem moved_just {need m t : Int} (hm : 0 < m) (hneed : 0 < need) (ht : t = (need + m - 1) / m) : 1 ≤ t ∧ need ≤ m * t ∧ m * (t - 1) < need := by
  obtain ⟨h1, h2, h3⟩ := up_enough hneed hm
  rw [← ht] at h1 h2 h3
  exact ⟨h3, by rw [Int.mul_comm]; exact h1, by rw [Int.mul_comm]; exact h2⟩
/-- heights -/
structure HgtB (hs : List Int) : Prop where
  bd : ∀ h ∈ hs, -100 ≤ h ∧ h ≤ 100
  n3 : 3 ≤ hs.length
  n10 : hs.length ≤ 10
def hAt (hs : List Int) (i : Nat) : Int := (hs[i]?).getD 0
theorem hAt_of {hs : List Int} {i : Nat} (h : i < hs.length) : hs[i]? = some (hAt hs i) := by
  unfold hAt
  rw [List.getElem?_eq_getElem h]
  rfl
theorem hAt_bd {hs : List Int} (h : HgtB hs) (i : Nat) : -100 ≤ hAt hs i ∧ hAt hs i ≤ 100 := by
  unfold hAt
  cases hc : hs[i]? with
  | none => show -100 ≤ (0 : Int) ∧ (0 : Int) ≤ 100; omega
  | some x => exact h.bd x (List.mem_of_getElem? hc)
/-- how deep a place lies, times the number of steps -/
def depthL (hs : List Int) (i : Nat) : Int := hAt hs 0 * ((hs.length : Int) - 1) + (hAt hs (hs.length - 1) - hAt hs 0) * (i : Int) - hAt hs i * ((hs.length : Int) - 1)
theorem depth_zero (hs : List Int) : depthL hs 0 = 0 := by
  unfold depthL
  rw [Int.natCast_zero, Int.mul_zero]
  omega
theorem depth_law (hs : List Int) (i : Nat) : hAt hs 0 * ((hs.length : Int) - 1 - (i : Int)) + hAt hs (hs.length - 1) * (i : Int) - ((hs.length : Int) - 1) * hAt hs i = depthL hs i := by
  unfold depthL
  grind

end Go.Proofs.YtmfadjdpbobfhaaDoor
