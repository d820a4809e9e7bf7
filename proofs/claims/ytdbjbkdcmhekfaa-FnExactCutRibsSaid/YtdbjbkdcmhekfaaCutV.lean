/- CutRibs: the state of the program's search. -/
import Derived.Test.YtdbjbkdcmhekfaaCutM
import Derived.Test.YtdbjbkdcmhekfaaSrchK
import Derived.Test.YtdbjbkdcmhekfaaApp2
namespace Go.Proofs.Ytdbjbkdcmhekfaa
open Go.RowKit
set_option linter.unusedVariables false

def iV (l : List Int) : List Value := l.map (Value.int .i64)
theorem iV_len (l : List Int) : (iV l).length = l.length := by simp [iV]
/-- two rows of the call's own in blocks apart -/
def Apart (v u : Value) : Prop := v.ownBlock = none ∨ v.ownBlock ≠ u.ownBlock
theorem Apart.comm {v u : Value} (h : Apart v u) : Apart u v := by
  rcases h with h | h
  · cases hu : u.ownBlock with
    | none => exact .inl hu
    | some g => exact .inr (by rw [h, hu]; exact fun e => by cases e)
  · exact .inr (fun e => h e.symm)
/-- a row that has grown stays apart from another one -/
theorem Apart.grown {w : World} {B size n : Nat} {e : TypeId} {v v9 u : Value} {l : List Value} {k : Nat} (h : Apart v u) (hu : w.ownsRow B e size u n l) (hk : w.heap.size ≤ k) (hb : v9.ownBlock = v.ownBlock ∨ v9.ownBlock = some k) : Apart v9 u := by
  rcases hb with hb | hb
  · unfold Apart; rw [hb]; exact h
  · refine .inr (fun e2 => ?_)
    rw [hb] at e2
    have := (hu.lt k e2.symm).2
    omega
/-- a number appended onto a row of the call's own, the new slice laid into the struct's cell s: what stays -/
theorem grow_row {b s n c m mc : Nat} {A A2 : Option Addr} {l l2 cs : List Value} {w w9 : World} {x : Int} {ts : TypeId} {nn : Nat} {A9 : Option Addr} {c9 q : Nat}
    (hO : w.ownsRow b ts nn (.slice (some ⟨b, 0, none⟩) 1 1) 1 cs) (hT : w.ownsRow (b + 1) 2 1 (.slice A n c) n l) (hS : w.ownsRow (b + 1) 2 1 (.slice A2 m mc) m l2) (hap : Apart (.slice A n c) (.slice A2 m mc))
    (hown : w9.ownsRow (b + 1) 2 1 (.slice A9 (n + 1) c9) (n + 1) (l ++ [.int .i64 x])) (hgr : ((w.alloc (.cells #[.int .i64 x] 2)).drewN q).grownBy w9 (Value.slice A n c).ownBlock) (hbk : (Value.slice A9 (n + 1) c9).ownBlock = (Value.slice A n c).ownBlock ∨ (Value.slice A9 (n + 1) c9).ownBlock = some (w.heap.size + 1)) :
    (w9.setCell ⟨b, s, none⟩ (.slice A9 (n + 1) c9)).ownsRow b ts nn (.slice (some ⟨b, 0, none⟩) 1 1) 1 (cs.set s (.slice A9 (n + 1) c9)) ∧ (w9.setCell ⟨b, s, none⟩ (.slice A9 (n + 1) c9)).ownsRow (b + 1) 2 1 (.slice A9 (n + 1) c9) (n + 1) (l ++ [.int .i64 x]) ∧ (w9.setCell ⟨b, s, none⟩ (.slice A9 (n + 1) c9)).ownsRow (b + 1) 2 1 (.slice A2 m mc) m l2 ∧ Apart (.slice A9 (n + 1) c9) (.slice A2 m mc) ∧ Below b w (w9.setCell ⟨b, s, none⟩ (.slice A9 (n + 1) c9)) ∧ (∀ i : Nat, i < 1 * nn → w9.cell? ⟨b, i, none⟩ = cs[i]?) ∧ (∀ i : Nat, w9.frozen? ⟨b, i, none⟩ = false) := by
  have hbw := (hO.lt b rfl).2
  have hneb : (Value.slice (some ⟨b, 0, none⟩) 1 1).ownBlock ≠ (Value.slice A n c).ownBlock := fun e => by
    have := (hT.lt b e.symm).1
    omega
  have O9 := World.ownsRow.kept (w := (w.alloc (.cells #[.int .i64 x] 2)).drewN q) (hO.alloc (.cells #[.int .i64 x] 2)) hgr (.inr hneb)
  have S9 := World.ownsRow.kept (w := (w.alloc (.cells #[.int .i64 x] 2)).drewN q) (hS.alloc (.cells #[.int .i64 x] 2)) hgr hap.comm
  have hsz9 : ((w.alloc (.cells #[.int .i64 x] 2)).drewN q).heap.size = w.heap.size + 1 := by show (w.alloc _).heap.size = _; simp
  have BA : Below b w ((w.alloc (.cells #[.int .i64 x] 2)).drewN q) := below_drewN' ((Below.refl b w).alloc (Nat.le_of_lt hbw) (.cells #[.int .i64 x] 2)) q
  have B9 : Below b w w9 := BA.grown hgr (by rw [hsz9]; omega) (fun g hg => Nat.le_of_succ_le (hT.lt g hg).1)
  exact ⟨own_setCells [.slice A9 (n + 1) c9] (p := s) O9, own_apart hown (by simp) _, own_apart S9 (by simp) _, hap.grown hS (by omega) hbk, B9.setCell (p := ⟨b, s, none⟩) (Nat.le_refl _) _, fun i hi => O9.cellAt i hi, fun i => O9.frozenAt i⟩

section
variable {P : Program} {wr w0 : World}
/-- append, as one step of a region that draws; the new elements lie in the block that was just made -/
theorem step_app3 {ops : Array Oper} {o : Oper} {a : Act} {K : Act → World → Prop} {Q : Exit → Act → World → Prop} {E : Prop} (hgd : o.guard = none) (s x : Operand) (t : TypeId)
    (ho : o.op = .call { callee := .builtin .append, args := #[s, x], argTypes := #[t, t] })
    (B : Nat) (e : TypeId) (z : Value) (size bytes : Nat) (ht : P.underlying t = some (.slice e)) (hinfo : (P.info? e).map (fun i => (i.zero, i.size, i.bytes)) = some (some z, size, bytes)) (hzs : z.cells.size = size) (hsz : 0 < size)
    (v : Value) (n : Nat) (xs : List Value) (hs : a.eval s = v) (hown : wr.ownsRow B e size v n xs)
    (cs : Array Value) (m c : Nat) (hx : a.eval x = .slice (some ⟨wr.heap.size, 0, none⟩) m c) (hl : cs.size = m * size) (h1 : ∀ u ∈ cs.toList, u.oneCell' = true)
    (hbytes : (n + m) * (bytes + 1) ≤ 140737488355328) (hbase : B ≤ wr.heap.size)
    (h : ∀ v' w', w'.ownsRow B e size v' (n + m) (xs ++ cs.toList) → (wr.alloc (.cells cs e)).grownBy w' v.ownBlock → (v'.ownBlock = v.ownBlock ∨ v'.ownBlock = some (wr.heap.size + 1)) → K (a.put o.dst v') w') :
    if Region.wanted o (yielded ops a.tmps) = true then Oper.wp P o a (wr.alloc (.cells cs e)) K Q else E := by
  have hw : Region.wanted o (yielded ops a.tmps) = true := by simp [Region.wanted, hgd]
  rw [if_pos hw]
  obtain ⟨i0, hi, hz0, hz1, hz2⟩ := info_parts hinfo
  have hnm : n + m ≤ (n + m) * (bytes + 1) := Nat.le_mul_of_pos_right _ (by omega)
  have hb2 : (n + m) * bytes ≤ (n + m) * (bytes + 1) := Nat.mul_le_mul_left _ (by omega)
  obtain ⟨v', w', hr, h2, h3, h4, h5⟩ := run_append_own_at (P := P) (w := wr.alloc (.cells cs e)) B t o.type e i0 z size bytes ht hi hz0 hz1 hz2 hzs hsz v n xs (hown.alloc _) ⟨wr.heap.size, 0, none⟩ m c cs.toList (by simpa using hl) (by
    intro j u hu
    have hadd : (⟨wr.heap.size, 0, none⟩ : Addr).add j = ⟨wr.heap.size, j, none⟩ := by unfold Addr.add; split <;> simp_all
    rw [hadd, cell_of_row _ _ _ cs e (0, 0) (heap_alloc_new wr _)]
    simpa using hu) h1 (by unfold maxLen; omega) (by omega) (by simp; omega)
  unfold Oper.wp execOp
  simp only [ho, resolve, invoke, builtin, Sem.run_bind, Sem.run_pure, Result.andThen_ok, List.map_toArray, List.map_cons, List.map_nil, hs, hx, hr]
  exact h v' w' h2 h3 (h5.imp id (fun e => by rw [e]; simp))
end

def CutAt (b : Nat) (LA : Value) (strip saw : Int) (fr : List Int) (t : List Nat) (left most : Int) (w : World) : Prop :=
  ∃ (Af : Option Addr) (cf : Nat) (At : Option Addr) (ct : Nat), w.ownsRow b 121 7 (.slice (some ⟨b, 0, none⟩) 1 1) 1 [LA, .int .i64 strip, .int .i64 saw, .slice Af fr.length cf, .slice At t.length ct, .int .i64 left, .int .i64 most] ∧ w.ownsRow (b + 1) 2 1 (.slice Af fr.length cf) fr.length (iV fr) ∧ w.ownsRow (b + 1) 2 1 (.slice At t.length ct) t.length (tV t) ∧ Apart (.slice Af fr.length cf) (.slice At t.length ct)
theorem CutAt.below {b : Nat} {LA : Value} {strip saw : Int} {fr : List Int} {t : List Nat} {left most : Int} {w w' : World} (h : CutAt b LA strip saw fr t left most w) (hb : Below w.heap.size w w') : CutAt b LA strip saw fr t left most w' := by
  obtain ⟨Af, cf, At, ct, ho, hf, ht, hap⟩ := h
  exact ⟨Af, cf, At, ct, own_below ho hb, own_below hf hb, own_below ht hb, hap⟩
theorem CutAt.lt {b : Nat} {LA : Value} {strip saw : Int} {fr : List Int} {t : List Nat} {left most : Int} {w : World} (h : CutAt b LA strip saw fr t left most w) : b < w.heap.size := by
  obtain ⟨Af, cf, At, ct, ho, hf, ht, hap⟩ := h
  exact (ho.lt b rfl).2
theorem CutAt.drewN {b : Nat} {LA : Value} {strip saw : Int} {fr : List Int} {t : List Nat} {left most : Int} {w : World} (h : CutAt b LA strip saw fr t left most w) (n : Nat) : CutAt b LA strip saw fr t left most (w.drewN n) := h
theorem CutAt.drew {b : Nat} {LA : Value} {strip saw : Int} {fr : List Int} {t : List Nat} {left most : Int} {w : World} (h : CutAt b LA strip saw fr t left most w) : CutAt b LA strip saw fr t left most w.drew := h
/-- the budget -/
theorem CutAt.setLeft {b : Nat} {LA : Value} {strip saw : Int} {fr : List Int} {t : List Nat} {left most : Int} {w : World} (h : CutAt b LA strip saw fr t left most w) (l2 : Int) : CutAt b LA strip saw fr t l2 most (w.setCell ⟨b, 5, none⟩ (.int .i64 l2)) ∧ Below b w (w.setCell ⟨b, 5, none⟩ (.int .i64 l2)) := by
  obtain ⟨Af, cf, At, ct, ho, hf, ht, hap⟩ := h
  exact ⟨⟨Af, cf, At, ct, own_setCells [.int .i64 l2] (p := 5) ho, own_apart hf (by simp) _, own_apart ht (by simp) _, hap⟩, (Below.refl b w).setCell (p := ⟨b, 5, none⟩) (Nat.le_refl _) _⟩
/-- a strip's room: where it lies, and stored anew -/
theorem CutAt.setF {b k : Nat} {LA : Value} {strip saw : Int} {fr : List Int} {t : List Nat} {left most : Int} {w : World} (h : CutAt b LA strip saw fr t left most w) (hk : k < fr.length) :
    ∃ g c, (w.cell? ⟨b, 3, none⟩ = some (.slice (some ⟨g, 0, none⟩) fr.length c) ∧ (g ≠ b ∧ fr.length ≤ c)) ∧ (w.cell? ⟨g, k, none⟩ = some (.int .i64 fr[k]) ∧ w.frozen? ⟨g, k, none⟩ = false) ∧ ∀ v : Int, CutAt b LA strip saw (fr.set k v) t left most (w.setCell ⟨g, k, none⟩ (.int .i64 v)) ∧ Below b w (w.setCell ⟨g, k, none⟩ (.int .i64 v)) := by
  obtain ⟨Af, cf, At, ct, ho, hf, ht, hap⟩ := h
  obtain ⟨g, cg, hv, hbg, hgl, hcl⟩ := own_form hf (by omega)
  injection hv with a1 a2 a3
  subst a1 a3
  have hgt : (Value.slice At t.length ct).ownBlock ≠ some g := by
    rcases hap.comm with h1 | h1
    · rw [h1]; exact fun e => by cases e
    · exact h1
  refine ⟨g, cf, ⟨ho.cellAt 3 (by omega), by omega, hcl⟩, ⟨?_, hf.frozenAt k⟩, fun v => ⟨⟨some ⟨g, 0, none⟩, cf, At, ct, ?_, ?_, ?_, ?_⟩, (Below.refl b w).setCell (p := ⟨g, k, none⟩) (by show b ≤ g; omega) _⟩⟩
  · rw [hf.cellAt k (by omega), iV, List.getElem?_map, List.getElem?_eq_getElem hk]; rfl
  · rw [List.length_set]
    exact ownsRow_setCell_other ho (a := ⟨g, k, none⟩) (by show some b ≠ some g; intro e; injection e with e; omega) _
  · have h1 := own_setCells [.int .i64 v] (p := k) hf
    rw [List.length_set]
    have e : iV (fr.set k v) = setSeg (iV fr) k [.int .i64 v] := by unfold iV; rw [List.map_set]; rfl
    rw [e]
    exact h1
  · exact ownsRow_setCell_other ht (a := ⟨g, k, none⟩) hgt _
  · rw [List.length_set]; exact hap
/-- the row of rooms cut away -/
theorem CutAt.cutF {b n : Nat} {LA : Value} {strip saw : Int} {fr : List Int} {t : List Nat} {left most : Int} {w : World} (h : CutAt b LA strip saw fr t left most w) (hn : n ≤ fr.length) (h0 : 0 < fr.length) :
    ∃ g c, (w.cell? ⟨b, 3, none⟩ = some (.slice (some ⟨g, 0, none⟩) fr.length c) ∧ ((fr.length ≤ c ∧ ¬ c = 0) ∧ c ≤ 9223372036854775807)) ∧ w.frozen? ⟨b, 3, none⟩ = false ∧ CutAt b LA strip saw (fr.take n) t left most (w.setCell ⟨b, 3, none⟩ (.slice (some ⟨g, 0, none⟩) n c)) ∧ Below b w (w.setCell ⟨b, 3, none⟩ (.slice (some ⟨g, 0, none⟩) n c)) := by
  obtain ⟨Af, cf, At, ct, ho, hf, ht, hap⟩ := h
  obtain ⟨g, cg, hv, hbg, hgl, hcl⟩ := own_form hf h0
  injection hv with a1 a2 a3
  subst a1 a3
  have hcp := own_capP hf
  have h1 := own_shrink' hf hn
  have e : iV (fr.take n) = (iV fr).take (n * 1) := by unfold iV; rw [Nat.mul_one, List.map_take]
  have el : (fr.take n).length = n := by rw [List.length_take]; omega
  refine ⟨g, cf, ⟨ho.cellAt 3 (by omega), ⟨⟨hcp.1, by omega⟩, hcp.2⟩⟩, ho.frozenAt 3, ⟨some ⟨g, 0, none⟩, cf, At, ct, ?_, ?_, ?_, ?_⟩, (Below.refl b w).setCell (p := ⟨b, 3, none⟩) (Nat.le_refl _) _⟩
  · rw [el]
    exact own_setCells [.slice (some ⟨g, 0, none⟩) n cf] (p := 3) ho
  · rw [el, e]
    exact own_apart h1 (by simp) _
  · exact own_apart ht (by simp) _
  · rw [el]; exact hap
/-- the last place given back -/
theorem CutAt.cutT {b k : Nat} {LA : Value} {strip saw : Int} {fr : List Int} {t : List Nat} {left most : Int} {w : World} (h : CutAt b LA strip saw fr (t ++ [k]) left most w) :
    ∃ g c, (w.cell? ⟨b, 4, none⟩ = some (.slice (some ⟨g, 0, none⟩) (t.length + 1) c) ∧ ((t.length ≤ c ∧ ¬ c = 0) ∧ c ≤ 9223372036854775807)) ∧ w.frozen? ⟨b, 4, none⟩ = false ∧ CutAt b LA strip saw fr t left most (w.setCell ⟨b, 4, none⟩ (.slice (some ⟨g, 0, none⟩) t.length c)) ∧ Below b w (w.setCell ⟨b, 4, none⟩ (.slice (some ⟨g, 0, none⟩) t.length c)) := by
  obtain ⟨Af, cf, At, ct, ho, hf, ht, hap⟩ := h
  obtain ⟨g, cg, hv, hbg, hgl, hcl⟩ := own_form ht (by simp)
  injection hv with a1 a2 a3
  subst a1 a3
  have hcp := own_capP ht
  have e : (t ++ [k]).length = t.length + 1 := by simp
  rw [e] at ho ht hcp hap
  have h1 := own_shrink' ht (show t.length ≤ t.length + 1 by omega)
  rw [tV_app, List.take_left' (by rw [tV_len]; omega)] at h1
  exact ⟨g, ct, ⟨ho.cellAt 4 (by omega), ⟨⟨by omega, by omega⟩, hcp.2⟩⟩, ho.frozenAt 4, ⟨Af, cf, some ⟨g, 0, none⟩, ct, own_setCells [.slice (some ⟨g, 0, none⟩) t.length ct] (p := 4) ho, own_apart hf (by simp) _, own_apart h1 (by simp) _, hap⟩, (Below.refl b w).setCell (p := ⟨b, 4, none⟩) (Nat.le_refl _) _⟩
end Go.Proofs.Ytdbjbkdcmhekfaa
