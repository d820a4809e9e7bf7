/- Appending onto a row of the call's own, from whatever source; the block is named. No program in sight. -/
import Derived.Test.YtmfadjdpbobfhaaDoorKit
import Derived.Test.YtmfadjdpbobfhaaDoorRowOps
import Derived.Maps.AppendAt
import Derived.Deep.AppendLies
namespace Go.Proofs.YtmfadjdpbobfhaaDoor
open Go.RowKit
set_option linter.unusedVariables false

theorem src_news {w : World} {ad : Addr} {news : List Value} (h : SrcAt w (some ad) news) : ∀ j u, news[j]? = some u → w.cell? (ad.add j) = some u := fun j u hu => by
  obtain ⟨ad', hA, hc⟩ := h (by intro e; rw [e] at hu; simp at hu)
  injection hA with hA
  subst hA
  exact hc j u hu
section
variable {P : Program} {w w0 : World}
theorem wp_app_some {o : Oper} {a : Act} {K : Act → World → Prop} {Q : Exit → Act → World → Prop} (hgd : o.guard = none) (s x : Operand) (t : TypeId)
    (ho : o.op = .call { callee := .builtin .append, args := #[s, x], argTypes := #[t, t] })
    (B : Nat) (e : TypeId) (z : Value) (size bytes : Nat) (ht : P.underlying t = some (.slice e)) (hinfo : (P.info? e).map (fun i => (i.zero, i.size, i.bytes)) = some (some z, size, bytes)) (hzs : z.cells.size = size) (hsz : 0 < size)
    (gv n cv : Nat) (xs : List Value) (hs : a.eval s = .slice (some ⟨gv, 0, none⟩) n cv) (hown : w.ownsRow B e size (.slice (some ⟨gv, 0, none⟩) n cv) n xs)
    (ad : Addr) (m c : Nat) (news : List Value) (hx : a.eval x = .slice (some ad) m c) (hl : news.length = m * size) (hnews : ∀ j u, news[j]? = some u → w.cell? (ad.add j) = some u) (h1 : ∀ u ∈ news, u.oneCell' = true)
    (hbytes : (n + m) * (bytes + 1) ≤ 140737488355328) (hbase : B ≤ w.heap.size) (hbel : Below B w0 w)
    (h : ∀ g cap w', w'.ownsRow B e size (.slice (some ⟨g, 0, none⟩) (n + m) cap) (n + m) (xs ++ news) → w.grownBy w' (some gv) → (g = gv ∨ g = w.heap.size) → Below B w0 w' → K (a.put o.dst (.slice (some ⟨g, 0, none⟩) (n + m) cap)) w') : o.wp P a w K Q := by
  obtain ⟨i0, hi, hz0, hz1, hz2⟩ := info_parts hinfo
  have hnm : n + m ≤ (n + m) * (bytes + 1) := Nat.le_mul_of_pos_right _ (by omega)
  have hb2 : (n + m) * bytes ≤ (n + m) * (bytes + 1) := Nat.mul_le_mul_left _ (by omega)
  obtain ⟨v', w', hr, h2, h3, h4, h5⟩ := run_append_own_at (P := P) w B t o.type e i0 z size bytes ht hi hz0 hz1 hz2 hzs hsz _ n xs hown ad m c news hl hnews h1 (by unfold maxLen; omega) (by omega) hbase
  have hsome : ∃ g cap, v' = .slice (some ⟨g, 0, none⟩) (n + m) cap := by
    rcases h2.2 with ⟨hv, _⟩ | ⟨g, cap, cur, hv, _⟩
    · have := (h4.1 hv).1
      cases this
    · exact ⟨g, cap, hv⟩
  obtain ⟨g, cap, rfl⟩ := hsome
  unfold Oper.wp execOp
  simp only [ho, resolve, invoke, builtin, Sem.run_bind, Sem.run_pure, Result.andThen_ok, List.map_toArray, List.map_cons, List.map_nil, hs, hx, hr]
  refine h g cap w' h2 h3 ?_ (hbel.grown h3 hbase (fun k hk => (hown.lt k hk).1))
  rcases h5 with h5 | h5
  · left; simpa [Value.ownBlock] using h5
  · right; simpa [Value.ownBlock] using h5
theorem step_app_some {ops : Array Oper} {o : Oper} {a : Act} {K : Act → World → Prop} {Q : Exit → Act → World → Prop} {E : Prop} (hgd : o.guard = none) (s x : Operand) (t : TypeId)
    (ho : o.op = .call { callee := .builtin .append, args := #[s, x], argTypes := #[t, t] })
    (B : Nat) (e : TypeId) (z : Value) (size bytes : Nat) (ht : P.underlying t = some (.slice e)) (hinfo : (P.info? e).map (fun i => (i.zero, i.size, i.bytes)) = some (some z, size, bytes)) (hzs : z.cells.size = size) (hsz : 0 < size)
    (gv n cv : Nat) (xs : List Value) (hs : a.eval s = .slice (some ⟨gv, 0, none⟩) n cv) (hown : w.ownsRow B e size (.slice (some ⟨gv, 0, none⟩) n cv) n xs)
    (ad : Addr) (m c : Nat) (news : List Value) (hx : a.eval x = .slice (some ad) m c) (hl : news.length = m * size) (hnews : ∀ j u, news[j]? = some u → w.cell? (ad.add j) = some u) (h1 : ∀ u ∈ news, u.oneCell' = true)
    (hbytes : (n + m) * (bytes + 1) ≤ 140737488355328) (hbase : B ≤ w.heap.size) (hbel : Below B w0 w)
    (h : ∀ g cap w', w'.ownsRow B e size (.slice (some ⟨g, 0, none⟩) (n + m) cap) (n + m) (xs ++ news) → w.grownBy w' (some gv) → (g = gv ∨ g = w.heap.size) → Below B w0 w' → K (a.put o.dst (.slice (some ⟨g, 0, none⟩) (n + m) cap)) w') : if Region.wanted o (yielded ops a.tmps) = true then Oper.wp P o a w K Q else E := by
  have hw : Region.wanted o (yielded ops a.tmps) = true := by simp [Region.wanted, hgd]
  rw [if_pos hw]
  exact wp_app_some (w0 := w0) hgd s x t ho B e z size bytes ht hinfo hzs hsz gv n cv xs hs hown ad m c news hx hl hnews h1 hbytes hbase hbel h
theorem wpList_app_some {ops : Array Oper} {rest : List Oper} {o : Oper} {a : Act} {Q : Exit → Act → World → Prop} (hgd : o.guard = none) (s x : Operand) (t : TypeId)
    (ho : o.op = .call { callee := .builtin .append, args := #[s, x], argTypes := #[t, t] })
    (B : Nat) (e : TypeId) (z : Value) (size bytes : Nat) (ht : P.underlying t = some (.slice e)) (hinfo : (P.info? e).map (fun i => (i.zero, i.size, i.bytes)) = some (some z, size, bytes)) (hzs : z.cells.size = size) (hsz : 0 < size)
    (gv n cv : Nat) (xs : List Value) (hs : a.eval s = .slice (some ⟨gv, 0, none⟩) n cv) (hown : w.ownsRow B e size (.slice (some ⟨gv, 0, none⟩) n cv) n xs)
    (ad : Addr) (m c : Nat) (news : List Value) (hx : a.eval x = .slice (some ad) m c) (hl : news.length = m * size) (hnews : ∀ j u, news[j]? = some u → w.cell? (ad.add j) = some u) (h1 : ∀ u ∈ news, u.oneCell' = true)
    (hbytes : (n + m) * (bytes + 1) ≤ 140737488355328) (hbase : B ≤ w.heap.size) (hbel : Below B w0 w)
    (h : ∀ g cap w', w'.ownsRow B e size (.slice (some ⟨g, 0, none⟩) (n + m) cap) (n + m) (xs ++ news) → w.grownBy w' (some gv) → (g = gv ∨ g = w.heap.size) → Below B w0 w' → wpList P ops Q rest (a.put o.dst (.slice (some ⟨g, 0, none⟩) (n + m) cap)) w') : wpList P ops Q (o :: rest) a w :=
  wpList_plain hgd fun K hK => wp_app_some (w0 := w0) hgd s x t ho B e z size bytes ht hinfo hzs hsz gv n cv xs hs hown ad m c news hx hl hnews h1 hbytes hbase hbel fun g cap w' a1 a2 a3 a4 => hK _ _ (h g cap w' a1 a2 a3 a4)
end
/-- the cells of a block that was just made -/
theorem news_new (w : World) (cs : Array Value) (t : TypeId) : ∀ j u, cs.toList[j]? = some u → (w.alloc (.cells cs t)).cell? ((⟨w.heap.size, 0, none⟩ : Addr).add j) = some u := World.news_of_block (heap_alloc_new w _)

end Go.Proofs.YtmfadjdpbobfhaaDoor
