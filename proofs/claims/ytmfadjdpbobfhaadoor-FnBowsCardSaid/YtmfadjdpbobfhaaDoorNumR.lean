/- Numbers read: what the walks need. No program in sight. -/
import Derived.Test.YtmfadjdpbobfhaaDoorNumMath
import Derived.Test.YtmfadjdpbobfhaaDoorListMath
import Derived.Lib.ParseIntBTie
import Derived.Lib.Strings
namespace Go.Proofs.YtmfadjdpbobfhaaDoor
open Go.RowKit
set_option linter.unusedVariables false

theorem num_none {l : List UInt8} (h : numO l = none) : (Ending.returned (.tuple #[.int .i64 0, .bool false])) = .returned (.tuple #[.int .i64 ((numO l).getD 0), .bool (numO l).isSome]) := by rw [h]; rfl
theorem num_some {l : List UInt8} {n : Int} (h : numO l = some n) : (Ending.returned (.tuple #[.int .i64 n, .bool true])) = .returned (.tuple #[.int .i64 ((numO l).getD 0), .bool (numO l).isSome]) := by rw [h]; rfl
theorem num_long {l : List UInt8} (h : 18 < (Lib.trimPrefix l [45]).length) : numO l = none := by
  cases l with
  | nil => rfl
  | cons c r =>
    rw [numO_cons]
    by_cases hc : c = 45
    · subst hc
      rw [if_pos rfl, if_neg]
      rintro ⟨⟨_, h1⟩, _⟩
      have e : Lib.trimPrefix (45 :: r) [45] = r := by simp [Lib.trimPrefix, Lib.hasPrefix]
      rw [e] at h
      omega
    · rw [if_neg hc, if_neg]
      rintro ⟨h1, _⟩
      have e : Lib.trimPrefix (c :: r) [45] = c :: r := by
        simp [Lib.trimPrefix, Lib.hasPrefix]
        intro h3
        exact absurd h3.symm hc
      rw [e, List.length_cons] at h
      omega
theorem num_parse {l : List UInt8} (h : ∀ v, Lib.parseIntB 64 l ≠ .ok v) : numO l = none := by
  cases hn : numO l with
  | none => rfl
  | some n => exact absurd (parse_numO hn) (h n)
theorem num_other {l : List UInt8} {v : Int} (h : Lib.parseIntB 64 l = .ok v) (hd : Lib.itoa v ≠ l) : numO l = none := by
  cases hn : numO l with
  | none => rfl
  | some n =>
    have h1 := parse_numO hn
    rw [h] at h1
    injection h1 with h1
    subst h1
    exact absurd (numO_some hn).1 hd
theorem digits_low {u : Nat} (h : (Lib.decDigits u).length ≤ 18) : u < 1000000000000000000 := by
  have h1 := valD_lt (Lib.decDigits u) 0 (dec_all u)
  rw [dec_val] at h1
  have h2 : (10 : Nat) ^ (Lib.decDigits u).length ≤ 10 ^ 18 := Nat.pow_le_pow_right (by omega) h
  omega
theorem num_is {l : List UInt8} {v : Int} (hl : (Lib.trimPrefix l [45]).length ≤ 18) (hd : Lib.itoa v = l) : numO l = some v := by
  rw [← hd]
  refine numO_itoa (digits_low ?_)
  subst hd
  unfold Lib.itoa at hl
  by_cases hv : v < 0
  · rw [if_pos hv] at hl
    simpa [Lib.trimPrefix, Lib.hasPrefix] using hl
  · rw [if_neg hv] at hl
    have e : v.toNat = v.natAbs := by omega
    rw [e] at hl
    have hne := dec_ne v.natAbs
    have hall := dec_all v.natAbs
    cases hd : Lib.decDigits v.natAbs with
    | nil => simp
    | cons c r =>
      rw [hd] at hl hall
      have hc := not45 (hall c (by simp))
      have e2 : Lib.trimPrefix (c :: r) [45] = c :: r := by
        simp [Lib.trimPrefix, Lib.hasPrefix]
        intro h3
        exact absurd h3.symm hc
      rw [e2] at hl
      exact hl

-- the reference's steps: a = 1 behind a minus, else 0
theorem at0 {s : ByteArray} {c : UInt8} {r : List UInt8} (h : s.data.toList = c :: r) (h0 : 0 < s.size) : s[0] = c := by
  have e : s[0] = s.data.toList[0]'(by rw [h]; simp) := by rw [Array.getElem_toList]; rfl
  rw [e]
  simp [h]
theorem atL {s : ByteArray} {k : Nat} (hk : k < s.size) : s.data.toList[k]'(by simpa using hk) = s[k] := by rw [Array.getElem_toList]; rfl
theorem lenL (s : ByteArray) : s.data.toList.length = s.size := by simp
/-- the digits from a on, up to k -/
def digs (s : ByteArray) (a k : Nat) : List UInt8 := (s.data.toList.drop a).take (k - a)
theorem digs_nil (s : ByteArray) (a : Nat) : digs s a a = [] := by simp [digs]
theorem digs_succ {s : ByteArray} {a k : Nat} (ha : a ≤ k) (hk : k < s.size) : digs s a (k + 1) = digs s a k ++ [s[k]] := by
  unfold digs
  have hl : k - a < (s.data.toList.drop a).length := by rw [List.length_drop, lenL]; omega
  rw [show k + 1 - a = (k - a) + 1 by omega, List.take_succ_eq_append_getElem hl, List.getElem_drop]
  congr 2
  have : a + (k - a) = k := by omega
  simp only [this]
  exact atL hk
theorem digs_all {s : ByteArray} {a : Nat} : digs s a s.size = s.data.toList.drop a := by
  unfold digs
  rw [List.take_of_length_le]
  rw [List.length_drop, lenL]
  omega
theorem digs_len {s : ByteArray} {a k : Nat} (hk : k ≤ s.size) : (digs s a k).length = k - a := by
  unfold digs
  rw [List.length_take, List.length_drop, lenL]
  omega
theorem dig_mem {s : ByteArray} {a k : Nat} (ha : a ≤ k) (hk : k < s.size) : s[k] ∈ s.data.toList.drop a := by
  rw [List.mem_iff_getElem]
  refine ⟨k - a, by rw [List.length_drop, lenL]; omega, ?_⟩
  rw [List.getElem_drop]
  have : a + (k - a) = k := by omega
  simp only [this]
  exact atL hk
theorem num1_len {s : ByteArray} (h0 : 0 < s.size) (h45 : s[0] = 45) (h : s.size = 1 ∨ 18 < s.size - 1) : numO s.data.toList = none := by
  have hl := lenL s
  cases hs : s.data.toList with
  | nil => rfl
  | cons c r =>
    rw [hs, List.length_cons] at hl
    rw [at0 hs h0] at h45
    rw [numO_cons, if_pos h45, if_neg]
    rintro ⟨⟨h1, h2⟩, _⟩
    rcases h with h | h
    · exact h1 (List.eq_nil_of_length_eq_zero (by omega))
    · omega
theorem num1_zero {s : ByteArray} (h1 : 1 < s.size) (h45 : s[0] = 45) (h : s[1] = 48) : numO s.data.toList = none := by
  cases hs : s.data.toList with
  | nil => rfl
  | cons c r =>
    rw [at0 hs (by omega)] at h45
    rw [numO_cons, if_pos h45, if_neg]
    rintro ⟨_, _, h3⟩
    apply h3
    have e := atL h1
    simp only [hs, List.getElem_cons_succ] at e
    have hr : 0 < r.length := by have := lenL s; rw [hs, List.length_cons] at this; omega
    rw [List.head?_eq_getElem?, List.getElem?_eq_getElem hr, e, h]
theorem num1_bad {s : ByteArray} {k : Nat} (h0 : 0 < s.size) (h45 : s[0] = 45) (ha : 1 ≤ k) (hk : k < s.size) (h : isDg s[k] = false) : numO s.data.toList = none := by
  have hm := dig_mem ha hk
  cases hs : s.data.toList with
  | nil => rfl
  | cons c r =>
    rw [at0 hs h0] at h45
    rw [hs] at hm
    rw [numO_cons, if_pos h45, if_neg]
    rintro ⟨_, h2, _⟩
    have := List.all_eq_true.1 h2 _ (by simpa using hm)
    rw [h] at this
    cases this
theorem num1_ok {s : ByteArray} (h1 : 1 < s.size) (h45 : s[0] = 45) (hl : s.size - 1 ≤ 18) (h48 : s[1] ≠ 48) (hd : ∀ c ∈ digs s 1 s.size, isDg c = true) : numO s.data.toList = some (-(valD 0 (digs s 1 s.size) : Int)) := by
  rw [digs_all] at hd ⊢
  have hlen := lenL s
  cases hs : s.data.toList with
  | nil => rw [hs] at hlen; simp at hlen; omega
  | cons c r =>
    rw [at0 hs (by omega)] at h45
    rw [hs, List.length_cons] at hlen
    have e := atL h1
    simp only [hs, List.getElem_cons_succ] at e
    have hr : 0 < r.length := by omega
    rw [hs] at hd
    rw [numO_cons, if_pos h45, if_pos]
    · rfl
    · refine ⟨⟨fun e => by rw [e] at hr; exact absurd hr (by simp), by omega⟩, List.all_eq_true.2 (by simpa using hd), ?_⟩
      rw [List.head?_eq_getElem?, List.getElem?_eq_getElem hr, e]
      intro h
      injection h with h
      exact h48 h
theorem num0_len {s : ByteArray} (h0 : 0 < s.size) (h45 : s[0] ≠ 45) (h : 18 < s.size) : numO s.data.toList = none := by
  have hl := lenL s
  cases hs : s.data.toList with
  | nil => rfl
  | cons c r =>
    rw [hs, List.length_cons] at hl
    rw [at0 hs h0] at h45
    rw [numO_cons, if_neg h45, if_neg]
    rintro ⟨h1, _⟩
    omega
theorem num0_zero {s : ByteArray} (h1 : 1 < s.size) (h45 : s[0] = 48) : numO s.data.toList = none := by
  have hl := lenL s
  cases hs : s.data.toList with
  | nil => rfl
  | cons c r =>
    rw [hs, List.length_cons] at hl
    rw [at0 hs (by omega)] at h45
    rw [numO_cons, if_neg (by rw [h45]; decide), if_neg]
    rintro ⟨_, _, h3⟩
    rcases h3 with h3 | h3
    · rw [h3] at hl; simp at hl; omega
    · exact h3 h45
theorem num0_bad {s : ByteArray} {k : Nat} (h0 : 0 < s.size) (h45 : s[0] ≠ 45) (hk : k < s.size) (h : isDg s[k] = false) : numO s.data.toList = none := by
  have hm := dig_mem (Nat.zero_le k) hk
  cases hs : s.data.toList with
  | nil => rfl
  | cons c r =>
    rw [at0 hs h0] at h45
    rw [hs] at hm
    rw [numO_cons, if_neg h45, if_neg]
    rintro ⟨_, h2, _⟩
    have := List.all_eq_true.1 h2 _ (by simpa using hm)
    rw [h] at this
    cases this
theorem num0_ok {s : ByteArray} (h0 : 0 < s.size) (h45 : s[0] ≠ 45) (hl : s.size ≤ 18) (h48 : s.size = 1 ∨ s[0] ≠ 48) (hd : ∀ c ∈ digs s 0 s.size, isDg c = true) : numO s.data.toList = some (valD 0 (digs s 0 s.size) : Int) := by
  rw [digs_all] at hd ⊢
  have hlen := lenL s
  cases hs : s.data.toList with
  | nil => rw [hs] at hlen; simp at hlen; omega
  | cons c r =>
    rw [at0 hs h0] at h45 h48
    rw [hs, List.length_cons] at hlen
    rw [hs] at hd
    rw [numO_cons, if_neg h45, if_pos]
    · rfl
    · refine ⟨by omega, List.all_eq_true.2 (by simpa using hd), ?_⟩
      rcases h48 with h | h
      · exact .inl (List.eq_nil_of_length_eq_zero (by omega))
      · exact .inr h
theorem digs_small {s : ByteArray} {a k : Nat} (hk : k ≤ s.size) (hl : s.size - a ≤ 18) (hd : ∀ c ∈ digs s a k, isDg c = true) : valD 0 (digs s a k) < 10 ^ (k - a) := by
  have := valD_lt (digs s a k) 0 hd
  rw [digs_len hk] at this
  omega
end Go.Proofs.YtmfadjdpbobfhaaDoor
