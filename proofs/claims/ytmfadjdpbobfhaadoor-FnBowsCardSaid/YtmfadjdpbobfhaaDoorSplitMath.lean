/- A text cut at a byte: no program in sight. -/
import Derived.Lib.SplitLaws
import Derived.Lib.CutLaws
namespace Go.Proofs.YtmfadjdpbobfhaaDoor
set_option linter.unusedVariables false

/-- the pieces between the bytes c -/
def splitC (c : UInt8) : List UInt8 → List (List UInt8)
  | [] => [[]]
  | x :: r => if x = c then [] :: splitC c r else match splitC c r with
    | [] => [[x]]
    | p :: ps => (x :: p) :: ps
theorem splitC_ne (c : UInt8) : ∀ l, splitC c l ≠ []
  | [] => by simp [splitC]
  | x :: r => by
    unfold splitC
    split
    · simp
    · split <;> simp
theorem splitC_miss {c : UInt8} : ∀ {l : List UInt8}, c ∉ l → splitC c l = [l]
  | [], _ => rfl
  | x :: r, h => by
    have h1 : x ≠ c := fun e => h (by simp [e])
    have h2 : c ∉ r := fun e => h (by simp [e])
    rw [splitC, if_neg h1, splitC_miss h2]
theorem splitC_hit {c : UInt8} : ∀ {a r : List UInt8}, c ∉ a → splitC c (a ++ c :: r) = a :: splitC c r
  | [], r, _ => by rw [List.nil_append, splitC, if_pos rfl]
  | x :: a, r, h => by
    have h1 : x ≠ c := fun e => h (by simp [e])
    have h2 : c ∉ a := fun e => h (by simp [e])
    rw [List.cons_append, splitC, if_neg h1, splitC_hit h2]
/-- every text is free of c, or has a first c -/
theorem first_at (c : UInt8) : ∀ (l : List UInt8), c ∉ l ∨ ∃ a r, l = a ++ c :: r ∧ c ∉ a
  | [] => .inl (by simp)
  | x :: l => by
    by_cases h : x = c
    · exact .inr ⟨[], l, by rw [h]; rfl, by simp⟩
    · rcases first_at c l with h1 | ⟨a, r, rfl, h2⟩
      · exact .inl (by intro e; rcases List.mem_cons.1 e with e | e; exact h e.symm; exact h1 e)
      · exact .inr ⟨x :: a, r, rfl, by intro e; rcases List.mem_cons.1 e with e | e; exact h e.symm; exact h2 e⟩
theorem index_miss {c : UInt8} : ∀ {l : List UInt8}, c ∉ l → Lib.index l [c] = -1
  | [], _ => rfl
  | x :: r, h => by
    have h1 : (c == x) = false := by rw [beq_eq_false_iff_ne]; exact fun e => h (by simp [e])
    have h2 : c ∉ r := fun e => h (by simp [e])
    rw [Lib.index, index_miss h2]
    simp [List.isPrefixOf, h1]
theorem index_hit {c : UInt8} : ∀ {a r : List UInt8}, c ∉ a → Lib.index (a ++ c :: r) [c] = a.length
  | [], r, _ => by
    rw [List.nil_append, Lib.index]
    simp [List.isPrefixOf]
  | x :: a, r, h => by
    have h1 : (c == x) = false := by rw [beq_eq_false_iff_ne]; exact fun e => h (by simp [e])
    have h2 : c ∉ a := fun e => h (by simp [e])
    have ih := index_hit (r := r) h2
    rw [List.cons_append, Lib.index, ih]
    simp only [List.isPrefixOf, h1, Bool.false_and, List.length_cons]
    rw [if_neg (by simp), if_neg (by rw [beq_iff_eq]; omega)]
    omega
theorem split_eq (c : UInt8) : ∀ (k : Nat) (l : List UInt8), l.count c = k → Lib.splitK [c] 0 k l = splitC c l
  | 0, l, h => by
    have h1 : c ∉ l := List.count_eq_zero.1 h
    rw [splitC_miss h1]
    rfl
  | k + 1, l, h => by
    rcases first_at c l with h1 | ⟨a, r, rfl, h2⟩
    · rw [List.count_eq_zero.2 h1] at h
      cases h
    · have hk : r.count c = k := by
        rw [List.count_append, List.count_eq_zero.2 h2, List.count_cons_self] at h
        omega
      have hi := index_hit (r := r) h2
      rw [splitC_hit h2, ← split_eq c k r hk]
      rw [Lib.splitK, if_neg (by rw [hi, beq_iff_eq]; omega), hi]
      have e1 : ((a.length : Nat) : Int).toNat = a.length := by omega
      rw [e1, Nat.add_zero, List.take_left, ← List.drop_drop, List.drop_left]
      rfl
/-- strings.Split at one byte -/
theorem splitB_eq (c : UInt8) (s : ByteArray) : (Lib.splitB ⟨#[c]⟩ 0 (Lib.countB s ⟨#[c]⟩) s).map (·.data.toList) = splitC c s.data.toList := by
  rw [Lib.splitB_data]
  exact split_eq c _ _ (Lib.count_one c s.data.toList).symm
theorem splitC_len (c : UInt8) (l : List UInt8) : (splitC c l).length = l.count c + 1 := by
  generalize h : l.count c = k
  induction k generalizing l with
  | zero => rw [splitC_miss (List.count_eq_zero.1 h)]; rfl
  | succ k ih =>
    rcases first_at c l with h1 | ⟨a, r, rfl, h2⟩
    · rw [List.count_eq_zero.2 h1] at h
      cases h
    · have hk : r.count c = k := by
        rw [List.count_append, List.count_eq_zero.2 h2, List.count_cons_self] at h
        omega
      rw [splitC_hit h2, List.length_cons, ih r hk]
theorem cut_miss {c : UInt8} {l : List UInt8} (h : c ∉ l) : Lib.cut l [c] = (l, [], false) := by
  unfold Lib.cut
  rw [index_miss h, if_neg (by omega)]
theorem cut_hit {c : UInt8} {a r : List UInt8} (h : c ∉ a) : Lib.cut (a ++ c :: r) [c] = (a, r, true) := by
  unfold Lib.cut
  rw [index_hit h, if_pos (by omega)]
  simp

end Go.Proofs.YtmfadjdpbobfhaaDoor
