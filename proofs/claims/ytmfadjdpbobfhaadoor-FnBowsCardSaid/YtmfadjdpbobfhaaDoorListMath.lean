/- The text of a list of numbers: no program in sight. -/
import Derived.Lib.ItoaNum
import Derived.Lib.Join
import Derived.Test.YtmfadjdpbobfhaaDoorNameMath
namespace Go.Proofs.YtmfadjdpbobfhaaDoor
set_option linter.unusedVariables false

/-- the numeral as a Go string -/
def dec (n : Int) : ByteArray := ⟨(Lib.itoa n).toArray⟩
theorem nDigits_le : ∀ (k u : Nat), u < 10 ^ (k + 1) → Lib.nDigits u ≤ k + 1
  | 0, u, h => by rw [Lib.nDigits_small (by simpa using h)]; exact Nat.le_refl _
  | k + 1, u, h => by
    by_cases hu : u < 10
    · rw [Lib.nDigits_small hu]; omega
    · rw [Lib.nDigits_big hu]
      have := nDigits_le k (u / 10) (by rw [Nat.pow_succ] at h; omega)
      omega
theorem itoa_length {n : Int} (h0 : -9223372036854775808 ≤ n) (h1 : n ≤ 9223372036854775807) : (Lib.itoa n).length ≤ 20 := by
  unfold Lib.itoa
  split
  · have := nDigits_le 18 n.natAbs (by omega)
    rw [List.length_cons, Lib.decDigits_length]; omega
  · have := nDigits_le 18 n.toNat (by omega)
    rw [Lib.decDigits_length]; omega
theorem dec_size {n : Int} (h0 : -9223372036854775808 ≤ n) (h1 : n ≤ 9223372036854775807) : (dec n).size ≤ 20 := itoa_length h0 h1

/-- numbers with commas between -/
def commas (ns : List Int) : List UInt8 := Lib.join (ns.map Lib.itoa) [44]
def commasB (ns : List Int) : ByteArray := ⟨(commas ns).toArray⟩
/-- ListText: a '-' for no number -/
def listT (ns : List Int) : ByteArray := match ns with | [] => ⟨#[45]⟩ | n :: r => commasB (n :: r)
theorem listT_ne {ns : List Int} (h : ns ≠ []) : listT ns = commasB ns := by cases ns; exact absurd rfl h; rfl

theorem joinTail_append (sep : List UInt8) (a b : List (List UInt8)) : Lib.joinTail sep (a ++ b) = Lib.joinTail sep a ++ Lib.joinTail sep b := by simp [Lib.joinTail]
theorem commas_snoc {ns : List Int} {n : Int} (h : ns ≠ []) : commas (ns ++ [n]) = commas ns ++ [44] ++ Lib.itoa n := by
  cases ns with
  | nil => exact absurd rfl h
  | cons m r =>
    unfold commas
    rw [List.cons_append, List.map_cons, List.map_cons, Lib.join_cons, Lib.join_cons, List.map_append, joinTail_append]
    simp [Lib.joinTail]
theorem commas_one (n : Int) : commas [n] = Lib.itoa n := by simp [commas, Lib.join_one]
theorem commas_length : ∀ (r : List Int), (∀ n ∈ r, -9223372036854775808 ≤ n ∧ n ≤ 9223372036854775807) → (Lib.joinTail [44] (r.map Lib.itoa)).length ≤ 21 * r.length
  | [], _ => by simp [Lib.joinTail]
  | n :: r, h => by
    have h1 := commas_length r (fun m hm => h m (by simp [hm]))
    have h2 := itoa_length (h n (by simp)).1 (h n (by simp)).2
    have h3 : Lib.joinTail [44] ((n :: r).map Lib.itoa) = [44] ++ Lib.itoa n ++ Lib.joinTail [44] (r.map Lib.itoa) := by simp [Lib.joinTail]
    rw [h3, List.length_append, List.length_append, List.length_cons]
    simp only [List.length_nil, List.length_cons]
    omega
theorem commasB_size {ns : List Int} (h : ∀ n ∈ ns, -9223372036854775808 ≤ n ∧ n ≤ 9223372036854775807) : (commasB ns).size ≤ 21 * ns.length := by
  show (commas ns).length ≤ _
  cases ns with
  | nil => exact Nat.le_refl _
  | cons n r =>
    have h1 := commas_length r (fun m hm => h m (by simp [hm]))
    have h2 := itoa_length (h n (by simp)).1 (h n (by simp)).2
    unfold commas
    rw [List.map_cons, Lib.join_cons, List.length_append, List.length_cons]
    omega
theorem commasB_nil : commasB [] = ⟨#[]⟩ := rfl
theorem take_snoc' {ns : List Int} {k : Nat} (h : k < ns.length) : ns.take (k + 1) = ns.take k ++ [ns[k]] := by rw [List.take_succ_eq_append_getElem h]
/-- one number more -/
theorem commasB_first {ns : List Int} {k : Nat} (hk : k < 1) (h : k < ns.length) : commasB (ns.take (k + 1)) = commasB (ns.take k) ++ dec ns[k] := by
  have hk0 : k = 0 := by omega
  subst hk0
  cases ns with
  | nil => exact absurd h (by simp)
  | cons n r =>
    have e : commasB ((n :: r).take 1) = dec n := by show (⟨(commas [n]).toArray⟩ : ByteArray) = _; rw [commas_one]; rfl
    rw [e]
    apply ByteArray.ext
    simp [dec, commasB, commas, Lib.join_nil]
theorem commasB_next {ns : List Int} {k : Nat} (h0 : 0 < k) (h : k < ns.length) : commasB (ns.take (k + 1)) = commasB (ns.take k) ++ ⟨#[44]⟩ ++ dec ns[k] := by
  have hne : ns.take k ≠ [] := by
    intro e
    have := congrArg List.length e
    rw [List.length_take, List.length_nil] at this
    omega
  unfold commasB
  rw [take_snoc' h, commas_snoc hne]
  apply ByteArray.ext
  simp [dec]
theorem mem_take {ns : List Int} {k : Nat} {p : Int → Prop} (h : ∀ n ∈ ns, p n) : ∀ n ∈ ns.take k, p n := fun n hn => h n (List.mem_of_mem_take hn)
theorem join_dec (ns : List Int) : (⟨(Lib.join ((ns.map dec).map (·.data.toList)) (⟨#[44]⟩ : ByteArray).data.toList).toArray⟩ : ByteArray) = commasB ns := by
  unfold commasB commas
  rw [List.map_map]
  rfl

end Go.Proofs.YtmfadjdpbobfhaaDoor
