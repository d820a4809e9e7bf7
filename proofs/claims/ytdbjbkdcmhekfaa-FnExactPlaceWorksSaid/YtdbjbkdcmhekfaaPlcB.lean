/- PlaceWorks: the plan as it is built, row by row; makeSlice and append as steps of a region that draws. -/
import Derived.Test.YtdbjbkdcmhekfaaPlcV
import Derived.Test.YtdbjbkdcmhekfaaInts
import Derived.Test.YtdbjbkdcmhekfaaSrchK
import Derived.Test.YtdbjbkdcmhekfaaApp2
import Derived.Test.YtdbjbkdcmhekfaaHeldK
import Derived.Deep.AppendLies
namespace Go.Proofs.Ytdbjbkdcmhekfaa
open Go.RowKit
set_option linter.unusedVariables false

theorem infoSL : (Try.prog.info? 24).map (fun i => (i.zero, i.size, i.bytes)) = some (some (.slice none 0 0), 1, 24) := by kernel_rfl
section
variable {P : Program} {wr : World}
/-- make, as one step of a region that draws -/
theorem step_make {ops : Array Oper} {o : Oper} {a : Act} {K : Act → World → Prop} {Q : Exit → Act → World → Prop} {E : Prop} (hgd : o.guard = none) (l c : Operand) (t : TypeId) (ho : o.op = Op.makeSlice t l c)
    (B : Nat) (e : TypeId) (z : Value) (size bytes : Nat) (ht : P.underlying t = some (.slice e)) (hinfo : (P.info? e).map (fun i => (i.zero, i.size, i.bytes)) = some (some z, size, bytes))
    (kl kc : IntKind) (n : Nat) (hl : a.eval l = .int kl (n : Int)) (hc : a.eval c = .int kc (n : Int)) (b2 : bytes * n ≤ 281474976710656) (b3 : n ≤ maxLen) (b4 : B ≤ wr.heap.size)
    (h : ∀ w', w'.ownsRow B e size (.slice (some ⟨wr.heap.size, 0, none⟩) n n) n (madeCells z.cells (n * size)).toList → wr.grownBy w' none → K (a.put o.dst (.slice (some ⟨wr.heap.size, 0, none⟩) n n)) w') :
    if Region.wanted o (yielded ops a.tmps) = true then Oper.wp P o a wr K Q else E := by
  have hw : Region.wanted o (yielded ops a.tmps) = true := by simp [Region.wanted, hgd]
  rw [if_pos hw]
  obtain ⟨i0, hi, hz0, hz1, hz2⟩ := info_parts hinfo
  obtain ⟨w', hrun, r1, r2⟩ := run_make_full (P := P) wr B t e i0 z size ht hi hz0 hz1 kl kc n (by rw [hz2]; exact b2) b3 b4
  unfold Oper.wp
  simp [execOp, ho, hl, hc, hrun, Result.andThen]
  exact h w' r1 r2
/-- append, as one step of a region that draws; the new elements lie in the block that was just made -/
theorem step_appP {ops : Array Oper} {o : Oper} {a : Act} {K : Act → World → Prop} {Q : Exit → Act → World → Prop} {E : Prop} (hgd : o.guard = none) (s x : Operand) (t : TypeId)
    (ho : o.op = .call { callee := .builtin .append, args := #[s, x], argTypes := #[t, t] })
    (B : Nat) (e : TypeId) (z : Value) (size bytes : Nat) (ht : P.underlying t = some (.slice e)) (hinfo : (P.info? e).map (fun i => (i.zero, i.size, i.bytes)) = some (some z, size, bytes)) (hzs : z.cells.size = size) (hsz : 0 < size)
    (v : Value) (n : Nat) (xs : List Value) (hs : a.eval s = v) (hown : wr.ownsRow B e size v n xs)
    (cs : Array Value) (m c : Nat) (hx : a.eval x = .slice (some ⟨wr.heap.size, 0, none⟩) m c) (hl : cs.size = m * size) (h1 : ∀ u ∈ cs.toList, u.oneCell' = true)
    (hbytes : (n + m) * (bytes + 1) ≤ 140737488355328) (hbase : B ≤ wr.heap.size)
    (h : ∀ v' w', w'.ownsRow B e size v' (n + m) (xs ++ cs.toList) → (wr.alloc (.cells cs e)).grownBy w' v.ownBlock → (v'.ownBlock = v.ownBlock ∨ v'.ownBlock = some (wr.heap.size + 1)) → K (a.put o.dst v') w') :
    if Region.wanted o (yielded ops a.tmps) = true then Oper.wp P o a (wr.alloc (.cells cs e)) K Q else E := by
  have hw : Region.wanted o (yielded ops a.tmps) = true := by simp [Region.wanted, hgd]
  rw [if_pos hw]
  obtain ⟨i0, hi, hz0, hz1, hz2⟩ := info_parts hinfo
  have hnm : n + m ≤ (n + m) * (bytes + 1) := Nat.le_mul_of_pos_right _ (by omega)
  have hb2 : (n + m) * bytes ≤ (n + m) * (bytes + 1) := Nat.mul_le_mul_left _ (by omega)
  obtain ⟨v', w', hr, h2, h3, h4, h5⟩ := run_append_own_at (P := P) (w := wr.alloc (.cells cs e)) B t o.type e i0 z size bytes ht hi hz0 hz1 hz2 hzs hsz v n xs (hown.alloc _) ⟨wr.heap.size, 0, none⟩ m c cs.toList (by simpa using hl) (World.news_of_block (heap_alloc_new wr _)) h1 (by unfold maxLen; omega) (by omega) (by simp; omega)
  unfold Oper.wp execOp
  simp only [ho, resolve, invoke, builtin, Sem.run_bind, Sem.run_pure, Result.andThen_ok, List.map_toArray, List.map_cons, List.map_nil, hs, hx, hr]
  exact h v' w' h2 h3 (h5.imp id (fun e => by rw [e]; simp))
end
/-- k rows are built -/
def BldR (T : TypeId) (K : Nat) (LA : Value) (rest : List Value) (b k : Nat) (A : Option Addr) (cp : Nat) (gs : List Nat) (w : World) : Prop :=
  w.ownsRow b T K (.slice (some ⟨b, 0, none⟩) 1 1) 1 (LA :: .slice A k cp :: rest) ∧ w.ownsRow (b + 1) 24 1 (.slice A k cp) k (gs.map gV) ∧ gs.length = k ∧ gs.Nodup ∧
  ∀ g ∈ gs, (Value.slice A k cp).ownBlock ≠ some g ∧ w.ownsRow (b + 1) 2 1 (gV g) 40 (iVP zeroR)
section
variable {T : TypeId} {K : Nat} {LA : Value} {rest : List Value} {b k : Nat} {A : Option Addr} {cp : Nat} {gs : List Nat}
theorem BldR.drew {w : World} (h : BldR T K LA rest b k A cp gs w) : BldR T K LA rest b k A cp gs w.drew := ⟨h.1, h.2.1, h.2.2.1, h.2.2.2.1, fun g hg => ⟨(h.2.2.2.2 g hg).1, (h.2.2.2.2 g hg).2⟩⟩
theorem BldR.start {w : World} (ho : w.ownsRow b T K (.slice (some ⟨b, 0, none⟩) 1 1) 1 (LA :: .slice none 0 0 :: rest)) : BldR T K LA rest b 0 none 0 [] w := ⟨ho, World.ownsRow_nil _ _ _ _, rfl, List.nodup_nil, fun g hg => by cases hg⟩
theorem gV_block (g : Nat) : (gV g).ownBlock = some g := rfl
theorem BldR.next {W w3 w9 : World} {A9 : Option Addr} {c9 : Nat} (h : BldR T K LA rest b k A cp gs W) (h3 : w3.ownsRow (b + 1) 2 1 (gV W.heap.size) 40 (iVP zeroR)) (hg3 : W.grownBy w3 none)
    (hown : w9.ownsRow (b + 1) 24 1 (.slice A9 (k + 1) c9) (k + 1) (gs.map gV ++ [gV W.heap.size])) (hgr : (w3.alloc (.cells #[gV W.heap.size] 24)).grownBy w9 (Value.slice A k cp).ownBlock)
    (hbk : (Value.slice A9 (k + 1) c9).ownBlock = (Value.slice A k cp).ownBlock ∨ (Value.slice A9 (k + 1) c9).ownBlock = some (w3.heap.size + 1)) :
    w9.cell? ⟨b, 1, none⟩ = some (.slice A k cp) ∧ w9.frozen? ⟨b, 1, none⟩ = false ∧ BldR T K LA rest b (k + 1) A9 c9 (gs ++ [W.heap.size]) (w9.setCell ⟨b, 1, none⟩ (.slice A9 (k + 1) c9)) ∧ Below b W (w9.setCell ⟨b, 1, none⟩ (.slice A9 (k + 1) c9)) := by
  obtain ⟨ho, hp, hl, hnd, hr⟩ := h
  have hbW : b < W.heap.size := (ho.lt b rfl).2
  have h3l : W.heap.size < w3.heap.size := (h3.lt _ (gV_block _)).2
  have hneb : (Value.slice (some ⟨b, 0, none⟩) 1 1).ownBlock ≠ (Value.slice A k cp).ownBlock := fun e => by
    have := (hp.lt b e.symm).1
    omega
  have up : ∀ {B : Nat} {e : TypeId} {s n : Nat} {v : Value} {xs : List Value}, W.ownsRow B e s v n xs → v.ownBlock ≠ (Value.slice A k cp).ownBlock → w9.ownsRow B e s v n xs := fun h hne =>
    World.ownsRow.kept (w := w3.alloc (.cells #[gV W.heap.size] 24)) ((World.ownsRow.kept h hg3 (by cases hv : Value.ownBlock _ with | none => exact .inl rfl | some q => exact .inr (by simp))).alloc _) hgr (.inr hne)
  have O9 := up ho hneb
  have hpl : ∀ p, (Value.slice A k cp).ownBlock = some p → p < W.heap.size := fun p hp' => (hp.lt p hp').2
  have N9 : w9.ownsRow (b + 1) 2 1 (gV W.heap.size) 40 (iVP zeroR) :=
    World.ownsRow.kept (w := w3.alloc (.cells #[gV W.heap.size] 24)) (h3.alloc _) hgr (.inr (fun e => by
      have := hpl W.heap.size e.symm
      omega))
  have c1 := O9.cellAt 1 (by have := ho.1; simp only [List.length_cons] at this; omega)
  have hszA : (w3.alloc (.cells #[gV W.heap.size] 24)).heap.size = w3.heap.size + 1 := by simp
  have hsz9 := hgr.size
  rw [hszA] at hsz9
  have B3 : Below b W w3 := (Below.refl b W).grown hg3 (Nat.le_of_lt hbW) (fun g hg => by cases hg)
  have BA : Below b W (w3.alloc (.cells #[gV W.heap.size] 24)) := B3.alloc (by omega) (.cells #[gV W.heap.size] 24)
  have B9 : Below b W w9 := BA.grown hgr (by rw [hszA]; omega) (fun g hg => Nat.le_of_succ_le (hp.lt g hg).1)
  refine ⟨by simpa using c1, O9.frozenAt 1, ⟨own_setCells [.slice A9 (k + 1) c9] (p := 1) O9, own_apart (by rw [List.map_append]; exact hown) (by simp) _, by simp [hl], ?_, fun g hg => ?_⟩, B9.setCell (p := ⟨b, 1, none⟩) (Nat.le_refl _) _⟩
  · refine List.nodup_append.2 ⟨hnd, by simp, fun x hx y hy => ?_⟩
    rw [List.mem_singleton] at hy
    have := ((hr x hx).2.lt x (gV_block x)).2
    omega
  · rcases List.mem_append.1 hg with hg | hg
    · refine ⟨fun e => ?_, own_apart (up (hr g hg).2 (fun e => (hr g hg).1 e.symm)) (by simp) _⟩
      rcases hbk with h1 | h1
      · exact (hr g hg).1 (h1.symm.trans e)
      · rw [h1] at e
        injection e with e
        have := ((hr g hg).2.lt g (gV_block g)).2
        omega
    · rw [List.mem_singleton] at hg
      subst hg
      refine ⟨fun e => ?_, own_apart N9 (by simp) _⟩
      rcases hbk with h1 | h1
      · have := hpl _ (h1.symm.trans e)
        omega
      · rw [h1] at e
        injection e with e
        omega
theorem BldR.done {w : World} (h : BldR T K LA rest b k A cp gs w) (hk : 1 ≤ k) : ∃ p, A = some ⟨p, 0, none⟩ ∧ PlanR w (b + 1) w.heap.size p cp gs (plan0 k) := by
  obtain ⟨ho, hp, hl, hnd, hr⟩ := h
  obtain ⟨p, c2, he, hbp, hpl, -⟩ := own_form hp (by omega)
  injection he with e1 e2 e3
  subst e1
  have hlen : (plan0 k).length = k := List.length_replicate
  refine ⟨p, rfl, ⟨by rw [hlen]; exact hp, by rw [hlen]; exact hl, hnd, fun g hg e => (hr g hg).1 (by rw [e]; rfl), ⟨hbp, hpl⟩, fun g hg => (hr g hg).2.lt g (gV_block g), fun i g r h1 h2 => ?_⟩⟩
  have hg := List.mem_of_getElem? h1
  have er : r = zeroR := List.eq_of_mem_replicate (List.mem_of_getElem? h2)
  rw [er]
  exact own_base (hr g hg).2
end

end Go.Proofs.Ytdbjbkdcmhekfaa
