/- Numerals and what they spell: no program in sight. -/
import Derived.Lib.ItoaNum
import Derived.Lib.ParseIntB
namespace Go.Proofs.YtmfadjdpbobfhaaDoor
set_option linter.unusedVariables false

def isDg (c : UInt8) : Bool := decide (48 ≤ c.toNat) && decide (c.toNat ≤ 57)
theorem isDg_iff {c : UInt8} : isDg c = true ↔ 48 ≤ c.toNat ∧ c.toNat ≤ 57 := by simp [isDg]
/-- what digits spell behind acc -/
def valD (acc : Nat) (l : List UInt8) : Nat := l.foldl (fun a c => a * 10 + (c.toNat - 48)) acc
theorem valD_nil (a : Nat) : valD a [] = a := rfl
theorem valD_cons (a : Nat) (c : UInt8) (l : List UInt8) : valD a (c :: l) = valD (a * 10 + (c.toNat - 48)) l := by unfold valD; rw [List.foldl_cons]
theorem valD_app (l : List UInt8) (a : Nat) (c : UInt8) : valD a (l ++ [c]) = valD a l * 10 + (c.toNat - 48) := by unfold valD; rw [List.foldl_append, List.foldl_cons, List.foldl_nil]
theorem valD_ge : ∀ (l : List UInt8) (a : Nat), a ≤ valD a l
  | [], _ => Nat.le_refl _
  | c :: l, a => by
    have := valD_ge l (a * 10 + (c.toNat - 48))
    rw [valD_cons]
    omega
theorem valD_lt : ∀ (l : List UInt8) (a : Nat), (∀ c ∈ l, isDg c = true) → valD a l < (a + 1) * 10 ^ l.length
  | [], a, _ => by rw [valD_nil]; simp
  | c :: l, a, h => by
    have h1 := isDg_iff.1 (h c (by simp))
    have h2 := valD_lt l (a * 10 + (c.toNat - 48)) (fun d hd => h d (by simp [hd]))
    rw [valD_cons, List.length_cons, Nat.pow_succ]
    have h3 : (a * 10 + (c.toNat - 48) + 1) * 10 ^ l.length ≤ ((a + 1) * 10) * 10 ^ l.length := Nat.mul_le_mul_right _ (by omega)
    have h4 : (a + 1) * (10 ^ l.length * 10) = ((a + 1) * 10) * 10 ^ l.length := by rw [Nat.mul_comm (10 ^ l.length) 10, Nat.mul_assoc]
    omega
theorem ofNat_toNat {u : Nat} (h : u < 10) : (UInt8.ofNat (48 + u)).toNat = 48 + u := by rw [UInt8.toNat_ofNat']; omega
theorem dec_big {u : Nat} (h : ¬ u < 10) : Lib.decDigits u = Lib.decDigits (u / 10) ++ [UInt8.ofNat (48 + u % 10)] := by rw [Lib.decDigits, dif_neg h]
theorem dec_props : ∀ (n u : Nat), u < n → (∀ c ∈ Lib.decDigits u, isDg c = true) ∧ valD 0 (Lib.decDigits u) = u ∧ Lib.decDigits u ≠ [] ∧ (0 < u → (Lib.decDigits u).head? ≠ some 48)
  | 0, _, h => absurd h (Nat.not_lt_zero _)
  | n + 1, u, h => by
    by_cases hu : u < 10
    · rw [Lib.decDigits_one hu]
      have h1 := ofNat_toNat hu
      refine ⟨fun c hc => ?_, ?_, by simp, fun h0 => ?_⟩
      · have : c = UInt8.ofNat (48 + u) := by simpa using hc
        subst this
        rw [isDg_iff, h1]
        omega
      · rw [valD_cons, valD_nil, h1]
        omega
      · intro e
        have e2 : UInt8.ofNat (48 + u) = 48 := by simpa using e
        have := congrArg UInt8.toNat e2
        rw [h1] at this
        have h48 : (48 : UInt8).toNat = 48 := rfl
        omega
    · obtain ⟨h1, h2, h3, h4⟩ := dec_props n (u / 10) (by omega)
      have hm := ofNat_toNat (u := u % 10) (by omega)
      rw [dec_big hu]
      refine ⟨fun c hc => ?_, ?_, by simp, fun _ => ?_⟩
      · rcases List.mem_append.1 hc with hc | hc
        · exact h1 c hc
        · have : c = UInt8.ofNat (48 + u % 10) := by simpa using hc
          subst this
          rw [isDg_iff, hm]
          omega
      · rw [valD_app, h2, hm]
        omega
      · have h5 := h4 (by omega)
        cases hd : Lib.decDigits (u / 10) with
        | nil => exact absurd hd h3
        | cons a r =>
          rw [hd] at h5
          simpa using h5
theorem dec_all (u : Nat) : ∀ c ∈ Lib.decDigits u, isDg c = true := (dec_props (u + 1) u (Nat.lt_succ_self u)).1
theorem dec_val (u : Nat) : valD 0 (Lib.decDigits u) = u := (dec_props (u + 1) u (Nat.lt_succ_self u)).2.1
theorem dec_ne (u : Nat) : Lib.decDigits u ≠ [] := (dec_props (u + 1) u (Nat.lt_succ_self u)).2.2.1
theorem dec_head {u : Nat} (h : 0 < u) : (Lib.decDigits u).head? ≠ some 48 := (dec_props (u + 1) u (Nat.lt_succ_self u)).2.2.2 h
theorem valD_pos {c : UInt8} {l : List UInt8} (h : isDg c = true) (hc : c ≠ 48) : 0 < valD 0 (c :: l) := by
  have h1 := isDg_iff.1 h
  have h2 : c.toNat ≠ 48 := fun e => hc (UInt8.toNat_inj.1 (by rw [e]; rfl))
  have h3 := valD_ge l (0 * 10 + (c.toNat - 48))
  rw [valD_cons]
  omega
/-- digits without a zero ahead are the numeral of what they spell -/
theorem dec_of : ∀ (n : Nat) (l : List UInt8), l.length ≤ n → l ≠ [] → (∀ c ∈ l, isDg c = true) → (l.length = 1 ∨ l.head? ≠ some 48) → Lib.decDigits (valD 0 l) = l
  | 0, l, hn, h0, _, _ => absurd (List.eq_nil_of_length_eq_zero (by omega)) h0
  | n + 1, l, hn, h0, hd, hh => by
    rcases List.eq_nil_or_concat l with e | ⟨r, c, e⟩
    · exact absurd e h0
    · rw [List.concat_eq_append] at e
      subst e
      have hc := isDg_iff.1 (hd c (by simp))
      have hcb : UInt8.ofNat (48 + (c.toNat - 48)) = c := by rw [show 48 + (c.toNat - 48) = c.toNat by omega]; simp
      rcases r with _ | ⟨a, r⟩
      · rw [List.nil_append]
        rw [valD_cons, valD_nil, show 0 * 10 + (c.toNat - 48) = c.toNat - 48 by omega, Lib.decDigits_one (by omega), hcb]
      · have ha : a ≠ 48 := by
          rcases hh with hh | hh
          · simp at hh
          · simpa using hh
        have hp := valD_pos (l := r) (hd a (by simp)) ha
        have ih := dec_of n (a :: r) (by simp at hn ⊢; omega) (by simp) (fun d hd' => hd d (by simp at hd' ⊢; rcases hd' with h | h <;> simp [h])) (.inr (by simpa using ha))
        rw [valD_app, dec_big (by omega), show (valD 0 (a :: r) * 10 + (c.toNat - 48)) / 10 = valD 0 (a :: r) by omega, show (valD 0 (a :: r) * 10 + (c.toNat - 48)) % 10 = c.toNat - 48 by omega, ih, hcb]

/-- the number with a decimal form of at most 18 digits -/
def numO (l : List UInt8) : Option Int := match l with
  | [] => none
  | c :: r => if c = 45 then (if (r ≠ [] ∧ r.length ≤ 18) ∧ r.all isDg = true ∧ r.head? ≠ some 48 then some (-(valD 0 r : Int)) else none)
    else if r.length + 1 ≤ 18 ∧ (c :: r).all isDg = true ∧ (r = [] ∨ c ≠ 48) then some (valD 0 (c :: r) : Int) else none
theorem numO_cons (c : UInt8) (r : List UInt8) : numO (c :: r) = if c = 45 then (if (r ≠ [] ∧ r.length ≤ 18) ∧ r.all isDg = true ∧ r.head? ≠ some 48 then some (-(valD 0 r : Int)) else none)
    else if r.length + 1 ≤ 18 ∧ (c :: r).all isDg = true ∧ (r = [] ∨ c ≠ 48) then some (valD 0 (c :: r) : Int) else none := rfl
theorem numO_some {l : List UInt8} {n : Int} (h : numO l = some n) : Lib.itoa n = l ∧ -1000000000000000000 < n ∧ n < 1000000000000000000 := by
  cases l with
  | nil => cases h
  | cons c r =>
    rw [numO_cons] at h
    split at h
    · rename_i hc
      split at h
      · rename_i hr
        obtain ⟨⟨h1, h2⟩, h3, h4⟩ := hr
        injection h with h
        subst h
        have hd : ∀ c ∈ r, isDg c = true := List.all_eq_true.1 h3
        have hlt := valD_lt r 0 hd
        have hpow : (10 : Nat) ^ r.length ≤ 10 ^ 18 := Nat.pow_le_pow_right (by omega) h2
        have hv := dec_of r.length r (Nat.le_refl _) h1 hd (.inr h4)
        have hp : 0 < valD 0 r := by
          cases r with
          | nil => exact absurd rfl h1
          | cons a q => exact valD_pos (hd a (by simp)) (by simpa using h4)
        refine ⟨?_, by omega, by omega⟩
        unfold Lib.itoa
        rw [if_pos (by omega), show (-(valD 0 r : Int)).natAbs = valD 0 r by omega, hv, hc]
      · cases h
    · rename_i hc
      split at h
      · rename_i hr
        obtain ⟨h2, h3, h4⟩ := hr
        injection h with h
        subst h
        have hd : ∀ d ∈ c :: r, isDg d = true := List.all_eq_true.1 h3
        have hlt := valD_lt (c :: r) 0 hd
        have hpow : (10 : Nat) ^ (c :: r).length ≤ 10 ^ 18 := Nat.pow_le_pow_right (by omega) (by simpa using h2)
        have hv := dec_of (c :: r).length (c :: r) (Nat.le_refl _) (by simp) hd (by
          rcases h4 with h4 | h4
          · left; rw [h4]; rfl
          · right; simpa using h4)
        refine ⟨?_, by omega, by omega⟩
        unfold Lib.itoa
        rw [if_neg (by omega), show ((valD 0 (c :: r) : Nat) : Int).toNat = valD 0 (c :: r) by omega, hv]
      · cases h
theorem not45 {c : UInt8} (h : isDg c = true) : c ≠ 45 := fun e => by
  subst e
  have := isDg_iff.1 h
  have h2 : (45 : UInt8).toNat = 45 := rfl
  omega
/-- a numeral with at most 18 digits is read -/
theorem numO_itoa {n : Int} (h : n.natAbs < 1000000000000000000) : numO (Lib.itoa n) = some n := by
  have hlen : (Lib.decDigits n.natAbs).length ≤ 18 := by
    rw [Lib.decDigits_length]
    rcases Nat.lt_or_ge 18 (Lib.nDigits n.natAbs) with h2 | h2
    · exfalso
      have e := Lib.nDigits_unique 17
      have hle : ∀ (k u : Nat), u < 10 ^ (k + 1) → Lib.nDigits u ≤ k + 1 := fun k => by
        induction k with
        | zero => intro u hu; rw [Lib.nDigits_small (by simpa using hu)]; exact Nat.le_refl _
        | succ k ih =>
          intro u hu
          by_cases h10 : u < 10
          · rw [Lib.nDigits_small h10]; omega
          · rw [Lib.nDigits_big h10]
            have := ih (u / 10) (by rw [Nat.pow_succ] at hu; omega)
            omega
      have := hle 17 n.natAbs (by simpa using h)
      omega
    · exact h2
  unfold Lib.itoa
  by_cases hn : n < 0
  · rw [if_pos hn]
    have hp : 0 < n.natAbs := by omega
    rw [numO_cons, if_pos rfl, if_pos ⟨⟨dec_ne _, hlen⟩, List.all_eq_true.2 (dec_all _), dec_head hp⟩, dec_val]
    congr 1
    omega
  · rw [if_neg hn]
    have e : n.toNat = n.natAbs := by omega
    rw [e]
    have hne := dec_ne n.natAbs
    have hall := dec_all n.natAbs
    have hval := dec_val n.natAbs
    have hhd : 0 < n.natAbs → (Lib.decDigits n.natAbs).head? ≠ some 48 := dec_head
    have hz : n.natAbs = 0 → Lib.decDigits n.natAbs = [48] := fun h0 => by rw [h0, Lib.decDigits_one (by omega)]; rfl
    cases hd : Lib.decDigits n.natAbs with
    | nil => exact absurd hd hne
    | cons c r =>
      rw [hd] at hall hval hhd hz hlen
      have hh : r = [] ∨ c ≠ 48 := by
        rcases Nat.eq_zero_or_pos n.natAbs with h0 | h0
        · have := hz h0
          left
          injection this
        · right
          simpa using hhd h0
      rw [numO_cons, if_neg (not45 (hall c (by simp))), if_pos ⟨by simpa using hlen, List.all_eq_true.2 hall, hh⟩, hval]
      exact congrArg some (by omega)
theorem parse_digits : ∀ (l : List UInt8) (acc : Nat), (∀ c ∈ l, isDg c = true) → valD acc l < 1000000000000000000 → Lib.parseUintM (2 ^ 64 - 1) acc l = .ok (valD acc l)
  | [], _, _, _ => rfl
  | c :: r, acc, h, hv => by
    have h1 := isDg_iff.1 (h c (by simp))
    have h2 := valD_ge r (acc * 10 + (c.toNat - 48))
    rw [valD_cons] at hv
    rw [Lib.parseUintM, if_pos h1, if_neg (by omega), if_neg (by omega), valD_cons]
    exact parse_digits r _ (fun d hd => h d (by simp [hd])) hv
/-- what is read so, ParseInt reads -/
theorem parse_numO {l : List UInt8} {n : Int} (h : numO l = some n) : Lib.parseIntB 64 l = .ok n := by
  have hb := (numO_some h).2
  cases l with
  | nil => cases h
  | cons c r =>
    rw [numO_cons] at h
    split at h
    · rename_i hc
      split at h
      · rename_i hr
        obtain ⟨⟨h1, h2⟩, h3, h4⟩ := hr
        injection h with h
        subst h hc
        have hp := parse_digits r 0 (List.all_eq_true.1 h3) (by omega)
        simp only [Lib.parseIntB, Lib.parseUintB]
        have e : (if (45 : UInt8).toNat = 43 ∨ (45 : UInt8).toNat = 45 then r else 45 :: r) = r := if_pos (.inr rfl)
        rw [e, if_neg h1, hp]
        simp only
        rw [if_neg (by intro h; exact h.1 rfl), if_neg (by rintro ⟨_, h⟩; omega)]
        rfl
      · cases h
    · rename_i hc
      split at h
      · rename_i hr
        obtain ⟨h2, h3, h4⟩ := hr
        injection h with h
        subst h
        have hd : ∀ d ∈ c :: r, isDg d = true := List.all_eq_true.1 h3
        have h1 := isDg_iff.1 (hd c (by simp))
        have hp := parse_digits (c :: r) 0 hd (by omega)
        simp only [Lib.parseIntB, Lib.parseUintB]
        have e : (if c.toNat = 43 ∨ c.toNat = 45 then r else c :: r) = c :: r := if_neg (by omega)
        rw [e, if_neg (by simp), hp]
        simp only
        rw [if_neg (by rintro ⟨_, h⟩; omega), if_neg (by rintro ⟨h, _⟩; omega), if_neg (by omega)]
      · cases h

end Go.Proofs.YtmfadjdpbobfhaaDoor
