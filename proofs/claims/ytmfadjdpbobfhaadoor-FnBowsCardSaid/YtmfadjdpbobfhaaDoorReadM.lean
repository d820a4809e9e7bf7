/- Texts taken apart: pure. -/
import Derived.Test.YtmfadjdpbobfhaaDoorSplitS
import Derived.Test.YtmfadjdpbobfhaaDoorNumI
namespace Go.Proofs.YtmfadjdpbobfhaaDoor
open Go.RowKit
set_option linter.unusedVariables false

theorem split_two {c : UInt8} {l a b : List UInt8} (h : splitC c l = [a, b]) : l = a ++ c :: b ∧ c ∉ a ∧ c ∉ b := by
  rcases first_at c l with h1 | ⟨x, r, rfl, h2⟩
  · rw [splitC_miss h1] at h
    simp at h
  · rw [splitC_hit h2] at h
    injection h with h3 h4
    subst h3
    rcases first_at c r with h6 | ⟨y, q, rfl, h7⟩
    · rw [splitC_miss h6] at h4
      injection h4 with h4 _
      subst h4
      exact ⟨rfl, h2, h6⟩
    · rw [splitC_hit h7] at h4
      injection h4 with _ h8
      exact absurd h8 (splitC_ne c q)
theorem two_split {c : UInt8} {a b : List UInt8} (h1 : c ∉ a) (h2 : c ∉ b) : splitC c (a ++ c :: b) = [a, b] := by rw [splitC_hit h1, splitC_miss h2]
theorem dg_free {n : Int} {c : UInt8} (hc : isDg c = false) (h45 : c ≠ 45) : c ∉ Lib.itoa n := by
  have hd : ∀ u, c ∉ Lib.decDigits u := fun u hm => by
    have := dec_all u c hm
    rw [hc] at this
    cases this
  unfold Lib.itoa
  split
  · intro hm
    rcases List.mem_cons.1 hm with hm | hm
    · exact h45 hm
    · exact hd _ hm
  · exact hd _
theorem dg_free0 {n : Int} {c : UInt8} (h0 : 0 ≤ n) (hc : isDg c = false) : c ∉ Lib.itoa n := by
  have hd : ∀ u, c ∉ Lib.decDigits u := fun u hm => by
    have := dec_all u c hm
    rw [hc] at this
    cases this
  unfold Lib.itoa
  rw [if_neg (by omega)]
  exact hd _
theorem name_free {s : ByteArray} {c : UInt8} (h : nameB s = true) (hl : lowB c.toNat = false) (hd : digB c.toNat = false) : c ∉ s.data.toList := by
  unfold nameB at h
  split at h
  · cases h
  · rename_i d r he
    rw [he]
    simp only [Bool.and_eq_true, List.all_eq_true, Bool.or_eq_true] at h
    intro hm
    rcases List.mem_cons.1 hm with hm | hm
    · rw [← hm, hl] at h
      exact absurd h.1.2 (by decide)
    · rcases h.2 c hm with h2 | h2
      · rw [hl] at h2; cases h2
      · rw [hd] at h2; cases h2
theorem cut_len (l : List UInt8) (c : UInt8) : (Lib.cut l [c]).1.length ≤ l.length ∧ (Lib.cut l [c]).2.1.length ≤ l.length := by
  rcases first_at c l with h1 | ⟨x, r, rfl, h2⟩
  · rw [cut_miss h1]; simp
  · rw [cut_hit h2]; simp; omega
theorem dec_data (n : Int) : (dec n).data.toList = Lib.itoa n := rfl
theorem tB_eq {a : ByteArray} {l : List UInt8} (h : a.data.toList = l) : a = tB l := by rw [← h, tB_data]
/-- the variables that reading reads -/
def RdW (w : World) : Prop := (∃ m, w.cell? ⟨0, 0, none⟩ = some (.int .i64 m)) ∧ RdV w
theorem RdW.below {w w' : World} (h : RdW w) (hb : Below w.heap.size w w') : RdW w' := by
  obtain ⟨⟨m, h1⟩, h2⟩ := h
  exact ⟨⟨m, (hb.cell (World.block_lt_of_cell? _ _ h1)).trans h1⟩, h2.below hb⟩
end Go.Proofs.YtmfadjdpbobfhaaDoor
