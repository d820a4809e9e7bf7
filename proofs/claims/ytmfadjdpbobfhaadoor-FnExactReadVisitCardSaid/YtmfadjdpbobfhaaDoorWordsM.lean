/- The words of a text: pure. -/
import Derived.Test.YtmfadjdpbobfhaaDoorReadM
namespace Go.Proofs.YtmfadjdpbobfhaaDoor
open Go.RowKit
set_option linter.unusedVariables false

def wordsOf (l : List UInt8) : List (List UInt8) := (splitC 32 l).filter fun p => !p.isEmpty
theorem three_split {c : UInt8} {a b d : List UInt8} (h1 : c ∉ a) (h2 : c ∉ b) (h3 : c ∉ d) : splitC c (a ++ c :: (b ++ c :: d)) = [a, b, d] := by rw [splitC_hit h1, two_split h2 h3]
theorem four_split {c : UInt8} {a b d e : List UInt8} (h1 : c ∉ a) (h2 : c ∉ b) (h3 : c ∉ d) (h4 : c ∉ e) : splitC c (a ++ c :: (b ++ c :: (d ++ c :: e))) = [a, b, d, e] := by rw [splitC_hit h1, three_split h2 h3 h4]
theorem split_three {c : UInt8} {l a b d : List UInt8} (h : splitC c l = [a, b, d]) : l = a ++ c :: (b ++ c :: d) ∧ c ∉ a ∧ c ∉ b ∧ c ∉ d := by
  rcases first_at c l with h1 | ⟨x, r, rfl, h2⟩
  · rw [splitC_miss h1] at h
    simp at h
  · rw [splitC_hit h2] at h
    injection h with h3 h4
    subst h3
    obtain ⟨h5, h6, h7⟩ := split_two h4
    exact ⟨by rw [h5], h2, h6, h7⟩
theorem split_four {c : UInt8} {l a b d e : List UInt8} (h : splitC c l = [a, b, d, e]) : l = a ++ c :: (b ++ c :: (d ++ c :: e)) ∧ c ∉ a ∧ c ∉ b ∧ c ∉ d ∧ c ∉ e := by
  rcases first_at c l with h1 | ⟨x, r, rfl, h2⟩
  · rw [splitC_miss h1] at h
    simp at h
  · rw [splitC_hit h2] at h
    injection h with h3 h4
    subst h3
    obtain ⟨h5, h6, h7, h8⟩ := split_three h4
    exact ⟨by rw [h5], h2, h6, h7, h8⟩
theorem itoa_ne (n : Int) : (Lib.itoa n).isEmpty = false := by
  unfold Lib.itoa
  split
  · rfl
  · have := dec_ne n.toNat
    cases h : Lib.decDigits n.toNat with
    | nil => exact absurd h this
    | cons => rfl
theorem name_ne {s : ByteArray} (h : nameB s = true) : s.data.toList.isEmpty = false := by
  unfold nameB at h
  split at h
  · cases h
  · rename_i d r he
    rw [he]
    rfl
theorem app_cons_ne {α : Type} (a : List α) (c : α) (b : List α) : (a ++ c :: b).isEmpty = false := by
  cases a <;> rfl
theorem words_nil : wordsOf [] = [] := by rfl
theorem words_mem {l p : List UInt8} (h : p ∈ wordsOf l) : p ∈ splitC 32 l := (List.mem_filter.1 h).1
theorem split_size {c : UInt8} : ∀ (n : Nat) (l : List UInt8), l.length ≤ n → ∀ p ∈ splitC c l, p.length ≤ l.length
  | n, l, hn, p, hp => by
    rcases first_at c l with h1 | ⟨x, r, rfl, h2⟩
    · rw [splitC_miss h1] at hp
      rw [List.mem_singleton.1 hp]
      exact Nat.le_refl _
    · rw [splitC_hit h2] at hp
      have e : (x ++ c :: r).length = x.length + (r.length + 1) := by rw [List.length_append, List.length_cons]
      rcases List.mem_cons.1 hp with hp | hp
      · rw [hp]; omega
      · cases n with
        | zero => omega
        | succ n =>
          have := split_size n r (by omega) p hp
          omega
theorem words_size {l p : List UInt8} (h : p ∈ wordsOf l) : p.length ≤ l.length := split_size l.length l (Nat.le_refl _) p (words_mem h)
theorem words_count (l : List UInt8) : (wordsOf l).length ≤ l.length + 1 := by
  have h1 : (wordsOf l).length ≤ (splitC 32 l).length := List.length_filter_le _ _
  rw [splitC_len] at h1
  have := List.count_le_length (a := (32 : UInt8)) (l := l)
  omega
theorem len_three {α : Type} {l : List α} (h : l.length = 3) : ∃ a b c, l = [a, b, c] := by
  match l, h with
  | [a, b, c], _ => exact ⟨a, b, c, rfl⟩
theorem len_four {α : Type} {l : List α} (h : l.length = 4) : ∃ a b c d, l = [a, b, c, d] := by
  match l, h with
  | [a, b, c, d], _ => exact ⟨a, b, c, d, rfl⟩
end Go.Proofs.YtmfadjdpbobfhaaDoor
