/- Appending to a row of the call's own, and which block it then lies in. No program in sight. -/
import Derived.Test.YtdbjbkdcmhekfaaKit
import Derived.Maps.AppendAt
namespace Go.Proofs.Ytdbjbkdcmhekfaa
open Go.RowKit
set_option linter.unusedVariables false

section
variable {P : Program} {wr w0 : World}
/-- as wpList_app, and which block the row then lies in -/
theorem wpList_app2 {ops : Array Oper} {rest : List Oper} {o : Oper} {a : Act} {Q : Exit → Act → World → Prop} (hgd : o.guard = none) (s x : Operand) (t : TypeId)
    (ho : o.op = .call { callee := .builtin .append, args := #[s, x], argTypes := #[t, t] })
    (B : Nat) (e : TypeId) (z : Value) (size bytes : Nat) (ht : P.underlying t = some (.slice e)) (hinfo : (P.info? e).map (fun i => (i.zero, i.size, i.bytes)) = some (some z, size, bytes)) (hzs : z.cells.size = size) (hsz : 0 < size)
    (v : Value) (n : Nat) (xs : List Value) (hs : a.eval s = v) (hown : wr.ownsRow B e size v n xs)
    (cs : Array Value) (m c : Nat) (hx : a.eval x = .slice (some ⟨wr.heap.size, 0, none⟩) m c) (hl : cs.size = m * size) (h1 : ∀ u ∈ cs.toList, u.oneCell' = true)
    (hbytes : (n + m) * (bytes + 1) ≤ 140737488355328) (hbase : B ≤ wr.heap.size) (hbel : Below B w0 wr)
    (h : ∀ v' w', w'.ownsRow B e size v' (n + m) (xs ++ cs.toList) → Below B w0 w' → (wr.alloc (.cells cs e)).grownBy w' v.ownBlock → (v'.ownBlock = v.ownBlock ∨ v'.ownBlock = some (wr.heap.size + 1)) → wpList P ops Q rest (a.put o.dst v') w') : wpList P ops Q (o :: rest) a (wr.alloc (.cells cs e)) := by
  obtain ⟨i0, hi, hz0, hz1, hz2⟩ := info_parts hinfo
  have hnm : n + m ≤ (n + m) * (bytes + 1) := Nat.le_mul_of_pos_right _ (by omega)
  have hb2 : (n + m) * bytes ≤ (n + m) * (bytes + 1) := Nat.mul_le_mul_left _ (by omega)
  refine wpList_append_own_at _ hgd s x t ho B e i0 z size bytes ht hi hz0 hz1 hz2 hzs hsz v n xs hs (hown.alloc _) ⟨wr.heap.size, 0, none⟩ m c cs.toList hx (by simpa using hl) ?_ h1 (by unfold maxLen; omega) (by omega) (by simp; omega) ?_
  · intro j u hu
    have hadd : (⟨wr.heap.size, 0, none⟩ : Addr).add j = ⟨wr.heap.size, j, none⟩ := by unfold Addr.add; split <;> simp_all
    rw [hadd, cell_of_row _ _ _ cs e (0, 0) (heap_alloc_new wr _)]
    simpa using hu
  · intro v' w' g1 g2 _ g4
    refine h v' w' g1 ((hbel.alloc hbase _).grown g2 (by simp; omega) (fun k hk => (hown.lt k hk).1)) g2 ?_
    rcases g4 with g4 | g4
    · exact .inl g4
    · right
      rw [g4]
      simp
end
/-- two rows of the call's own, in blocks apart -/
theorem two_kept {w w' : World} {B : Nat} {e : TypeId} {size : Nat} {v v2 v' : Value} {n : Nat} {xs : List Value} {o : Obj} (h : w.ownsRow B e size v2 n xs) (hne : v2.ownBlock ≠ v.ownBlock) (hg : (w.alloc o).grownBy w' v.ownBlock) (hb : v'.ownBlock = v.ownBlock ∨ v'.ownBlock = some (w.heap.size + 1)) : w'.ownsRow B e size v2 n xs ∧ v2.ownBlock ≠ v'.ownBlock := by
  refine ⟨(h.alloc o).kept hg (.inr hne), ?_⟩
  rcases hb with hb | hb
  · rw [hb]; exact hne
  · rw [hb]
    intro e2
    have := (h.lt _ e2).2
    omega

end Go.Proofs.Ytdbjbkdcmhekfaa
