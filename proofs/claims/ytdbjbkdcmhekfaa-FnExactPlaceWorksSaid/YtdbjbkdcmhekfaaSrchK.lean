/- Searches: what a call may turn, a row of ways that grows and shrinks, a stretch of code by what it leaves. -/
import Derived.Test.YtdbjbkdcmhekfaaRowOps
import Derived.Test.YtdbjbkdcmhekfaaInts
import Derived.Test.YtdbjbkdcmhekfaaRowsKit
import Derived.Test.YtdbjbkdcmhekfaaLoopM
import Derived.Deep.RegionWith
import Derived.Deep.RegionLaw
import Derived.Maps.AppendAt
import Derived.Stop.LaidErr
namespace Go.Proofs.Ytdbjbkdcmhekfaa
open Go.RowKit
set_option linter.unusedVariables false

/-- a stretch of code by what it leaves -/
theorem wp_post {P : Program} {c : Code} {Q : Exit → Act → World → Prop} {a : Act} {w : World} (R : World → Prop) {af : Act} (h : c.wp P (fun e a' w' => match e with | .normal => a' = af ∧ R w' | _ => False) a w) (hc : ∀ w', R w' → Q .normal af w') : c.wp P Q a w :=
  Code.wp_mono (fun e a' w' h => by
    cases e with
    | normal => obtain ⟨ha, hr⟩ := h; subst ha; exact hc _ hr
    | _ => exact h.elim) h
theorem wp_post1 {P : Program} {c : Code} {Q : Exit → Act → World → Prop} {a : Act} {w : World} {α : Type} (R : α → World → Prop) {af : α → Act} (h : c.wp P (fun e a' w' => match e with | .normal => ∃ x, a' = af x ∧ R x w' | _ => False) a w) (hc : ∀ x w', R x w' → Q .normal (af x) w') : c.wp P Q a w :=
  Code.wp_mono (fun e a' w' h => by
    cases e with
    | normal => obtain ⟨x, ha, hr⟩ := h; subst ha; exact hc _ _ hr
    | _ => exact h.elim) h
theorem wp_post2 {P : Program} {c : Code} {Q : Exit → Act → World → Prop} {a : Act} {w : World} {α β : Type} (R : World → Prop) {af : α → β → Act} (h : c.wp P (fun e a' w' => match e with | .normal => ∃ x y, a' = af x y ∧ R w' | _ => False) a w) (hc : ∀ x y w', R w' → Q .normal (af x y) w') : c.wp P Q a w :=
  Code.wp_mono (fun e a' w' h => by
    cases e with
    | normal => obtain ⟨x, y, ha, hr⟩ := h; subst ha; exact hc _ _ _ hr
    | _ => exact h.elim) h
def tV (t : List Nat) : List Value := (t.map Int.ofNat).map (Value.int .i64)
theorem tV_len (t : List Nat) : (tV t).length = t.length := by simp [tV]
theorem tV_app (t u : List Nat) : tV (t ++ u) = tV t ++ tV u := by simp [tV]
theorem tV_ints (t : List Nat) : tV t = (intsN t).map (Value.int .i64) := rfl
/-- the block of a row that the struct's cell s holds -/
def blkAt (b s : Nat) (w : World) : Option Nat := (w.cell? ⟨b, s, none⟩).bind Value.ownBlock
theorem blkAt_of {b s : Nat} {w : World} {v : Value} (h : w.cell? ⟨b, s, none⟩ = some v) : blkAt b s w = v.ownBlock := by unfold blkAt; rw [h]; rfl
/-- only the search's own cells, the row in its cell s, the blocks of M and new memory turn -/
structure Kept (b s : Nat) (M : Nat → Prop) (w w' : World) : Prop where
  size : w.heap.size ≤ w'.heap.size
  same : ∀ g, g < w.heap.size → g ≠ b → ¬ M g → blkAt b s w ≠ some g → w'.heap[g]? = w.heap[g]?
  tk : blkAt b s w' = blkAt b s w ∨ ∃ g, blkAt b s w' = some g ∧ w.heap.size ≤ g
section
variable {b s : Nat} {M : Nat → Prop}
theorem Kept.refl (b s : Nat) (M : Nat → Prop) (w : World) : Kept b s M w w := ⟨Nat.le_refl _, fun _ _ _ _ _ => rfl, .inl rfl⟩
theorem Kept.trans {w w1 w2 : World} (h1 : Kept b s M w w1) (h2 : Kept b s M w1 w2) : Kept b s M w w2 := by
  refine ⟨Nat.le_trans h1.size h2.size, fun g hg hb hm ht => ?_, ?_⟩
  · refine (h2.same g (Nat.lt_of_lt_of_le hg h1.size) hb hm ?_).trans (h1.same g hg hb hm ht)
    rcases h1.tk with h3 | ⟨g3, h3, h4⟩
    · rw [h3]; exact ht
    · rw [h3]; intro e; injection e with e; omega
  · rcases h2.tk with h3 | ⟨g3, h3, h4⟩
    · rcases h1.tk with h5 | ⟨g5, h5, h6⟩
      · exact .inl (h3.trans h5)
      · exact .inr ⟨g5, h3.trans h5, h6⟩
    · exact .inr ⟨g3, h3, Nat.le_trans h1.size h4⟩
theorem Kept.cell {w w' : World} (h : Kept b s M w w') {g i : Nat} {v : Value} (hg : g < w.heap.size) (hb : g ≠ b) (hm : ¬ M g) (ht : blkAt b s w ≠ some g) (hc : w.cell? ⟨g, i, none⟩ = some v) : w'.cell? ⟨g, i, none⟩ = some v := (World.cell?_of_block (a := ⟨g, i, none⟩) (h.same g hg hb hm ht)).trans hc
theorem Kept.drew {w w' : World} (h : Kept b s M w w') : Kept b s M w w'.drew := ⟨h.size, h.same, h.tk⟩
theorem Kept.drewN {w w' : World} (h : Kept b s M w w') (n : Nat) : Kept b s M w (w'.drewN n) := ⟨h.size, h.same, h.tk⟩
theorem Kept.of_below {w w' : World} (hb : b < w.heap.size) (h : Below w.heap.size w w') : Kept b s M w w' :=
  ⟨h.size, fun g hg _ _ _ => h.block g hg, .inl (by unfold blkAt; rw [h.cell (p := ⟨b, s, none⟩) hb])⟩
theorem Kept.store {i : Nat} {v : Value} {w : World} (hi : i ≠ s) : Kept b s M w (w.setCell ⟨b, i, none⟩ v) :=
  ⟨by simp, fun g _ hb _ _ => heap_setCell_other w _ g v hb, .inl (by
    unfold blkAt
    have h9 : (w.setCell ⟨b, i, none⟩ v).cell? ⟨b, s, none⟩ = w.cell? ⟨b, s, none⟩ := by apply World.cell?_setCell_other; intro e; injection e with _ e; exact hi e
    rw [h9])⟩
/-- a store into a block of M -/
theorem Kept.storeM {g i : Nat} {v : Value} {w : World} (hg : M g) (hb : g ≠ b) : Kept b s M w (w.setCell ⟨g, i, none⟩ v) :=
  ⟨by simp, fun k _ _ hm _ => heap_setCell_other w _ k v (fun e => hm (e ▸ hg)), .inl (by
    unfold blkAt
    have h9 : (w.setCell ⟨g, i, none⟩ v).cell? ⟨b, s, none⟩ = w.cell? ⟨b, s, none⟩ := by apply World.cell?_setCell_other; intro e; injection e with e _; exact hb e
    rw [h9])⟩
theorem Kept.store2 {v u : Value} {w : World} (hc : w.cell? ⟨b, s, none⟩ = some u) (hv : v.ownBlock = u.ownBlock) : Kept b s M w (w.setCell ⟨b, s, none⟩ v) :=
  ⟨by simp, fun g _ hb _ _ => heap_setCell_other w _ g v hb, .inl (by unfold blkAt; rw [World.cell?_setCell_same' w _ v (by rw [hc]; rfl), hc]; exact hv)⟩
/-- an append onto the row, laid into its cell -/
theorem kept_app {W wr w9 : World} {v v9 : Value} (hc : W.cell? ⟨b, s, none⟩ = some v) (hal : ∀ g, g < W.heap.size → wr.heap[g]? = W.heap[g]?) (hsz : W.heap.size ≤ wr.heap.size) (hgr : wr.grownBy w9 v.ownBlock) (hbk : v9.ownBlock = v.ownBlock ∨ v9.ownBlock = some wr.heap.size) (hu : (w9.cell? ⟨b, s, none⟩).isSome = true) :
    Kept b s M W (w9.setCell ⟨b, s, none⟩ v9) := by
  have h9 := hgr.size
  have hs : ∀ g, g < W.heap.size → g ≠ b → blkAt b s W ≠ some g → w9.heap[g]? = W.heap[g]? := fun g hg hb ht => by
    rw [blkAt_of hc] at ht
    exact (hgr.block g (by omega) (fun e => ht e.symm)).trans (hal g hg)
  refine ⟨by simp; omega, fun g hg hb _ ht => (heap_setCell_other _ _ g _ hb).trans (hs g hg hb ht), ?_⟩
  rw [blkAt_of (World.cell?_setCell_same' w9 _ v9 hu), blkAt_of hc]
  rcases hbk with h | h
  · exact .inl h
  · exact .inr ⟨_, h, hsz⟩
end
theorem own_nil0 {w : World} {B size n c : Nat} {e : TypeId} {A : Option Addr} {l : List Value} (h : w.ownsRow B e size (.slice A n c) n l) : A = none → c = 0 := fun h0 => by
  rcases h.2 with ⟨h1, _⟩ | ⟨g, cap, cur, h1, _⟩
  · injection h1
  · rw [h0] at h1
    injection h1 with h2
    cases h2
theorem own_capP {w : World} {B size n c : Nat} {e : TypeId} {A : Option Addr} {l : List Value} (h : w.ownsRow B e size (.slice A n c) n l) : n ≤ c ∧ c ≤ 9223372036854775807 := by
  rcases h.2 with ⟨h0, h1⟩ | ⟨g', cap', cur, hv, h1, h2, h3, h4, h5, h6⟩
  · injection h0 with a1 a2 a3
    omega
  · injection hv with a1 _ a3
    unfold maxLen at h4
    omega
theorem own_shrink' {w : World} {B : Nat} {e : TypeId} {size g n c m : Nat} {xs : List Value} (h : w.ownsRow B e size (.slice (some ⟨g, 0, none⟩) n c) n xs) (hm : m ≤ n) : w.ownsRow B e size (.slice (some ⟨g, 0, none⟩) m c) m (xs.take (m * size)) := by
  obtain ⟨h1, h2⟩ := h
  have hmul : m * size ≤ n * size := Nat.mul_le_mul_right _ hm
  rcases h2 with ⟨h0, _⟩ | ⟨g', cap, cur, hv, hb, hh, hc, hcm, hsz, ht⟩
  · cases h0
  · cases hv
    refine ⟨by rw [List.length_take, h1]; omega, .inr ⟨g, c, cur, rfl, hb, hh, by omega, hcm, hsz, ?_⟩⟩
    rw [← ht, List.take_take, Nat.min_eq_left hmul]
/-- a row of the call's own, a cell of a block below stored -/
theorem own_apart {w : World} {B size m n cap : Nat} {e : TypeId} {A : Option Addr} {xs : List Value} (h : w.ownsRow B e size (.slice A n cap) m xs) {p : Addr} (hlt : p.block < B) (u : Value) : (w.setCell p u).ownsRow B e size (.slice A n cap) m xs :=
  h.kept (row := some p.block) ⟨rfl, rfl, rfl, by simp, fun k _ hk => heap_setCell_other w p k u (fun e => hk (by rw [e]))⟩ (by
    cases hb : (Value.slice A n cap).ownBlock with
    | none => exact .inl rfl
    | some g =>
      have h2 := (h.lt g hb).1
      exact .inr (by simp; omega))
theorem own_sliceV {w : World} {B n size : Nat} {e : TypeId} {v : Value} {l : List Value} (h : w.ownsRow B e size v n l) : ∃ A c, v = .slice A n c := by
  rcases h.2 with ⟨rfl, h0⟩ | ⟨g, cap, cur, rfl, _⟩
  · subst h0
    exact ⟨_, _, rfl⟩
  · exact ⟨_, _, rfl⟩
theorem apart_new {W w3 : World} {B : Nat} {e : TypeId} {size n n3 : Nat} {v v3 : Value} {xs ys : List Value} (h : W.ownsRow B e size v n xs) (h3 : w3.ownsRow W.heap.size e size v3 n3 ys) : v3.ownBlock = none ∨ v3.ownBlock ≠ v.ownBlock := by
  cases hb : v3.ownBlock with
  | none => exact .inl rfl
  | some g =>
    refine .inr fun h2 => ?_
    have h4 := (h3.lt g hb).1
    have h5 := (h.lt g h2.symm).2
    omega
/-- a builtin append whose run is known, as one step of a region that draws -/
theorem step_app_known {P : Program} {wr w' : World} {ops : Array Oper} {o : Oper} {a : Act} {K : Act → World → Prop} {Q : Exit → Act → World → Prop} {E : Prop} (hgd : o.guard = none) (s x : Operand) (t : TypeId)
    (ho : o.op = .call { callee := .builtin .append, args := #[s, x], argTypes := #[t, t] })
    (v u v' : Value) (hs : a.eval s = v) (hx : a.eval x = u) (hr : (Builtin.append_ #[t, t] o.type #[v, u]).run P wr = .ok v' w') (h : K (a.put o.dst v') w') :
    if Region.wanted o (yielded ops a.tmps) = true then Oper.wp P o a wr K Q else E := by
  have hw : Region.wanted o (yielded ops a.tmps) = true := by simp [Region.wanted, hgd]
  rw [if_pos hw]
  unfold Oper.wp execOp
  simp only [ho, resolve, invoke, builtin, Sem.run_bind, Sem.run_pure, Result.andThen_ok, List.map_toArray, List.map_cons, List.map_nil, hs, hx, hr]
  exact h
/-- one number appended onto a row of the call's own: the run, the row, which block it lies in -/
theorem app_one {W : World} {B n c k : Nat} {A : Option Addr} {l : List Value} {TI TS : TypeId} {P : Program} (ht : P.underlying TS = some (.slice TI)) (hinfo : (P.info? TI).map (fun i => (i.zero, i.size, i.bytes)) = some (some (.int .i64 0), 1, 8)) (h : W.ownsRow B TI 1 (.slice A n c) n l) (hn : n ≤ 1048576) (hB : B ≤ W.heap.size) (q : Nat) :
    ∃ A9 c9 w9, (Builtin.append_ #[TS, TS] TS #[.slice A n c, .slice (some ⟨W.heap.size, 0, none⟩) 1 1]).run P ((W.alloc (.cells #[.int .i64 (k : Int)] TI)).drewN q) = .ok (.slice A9 (n + 1) c9) w9 ∧ w9.ownsRow B TI 1 (.slice A9 (n + 1) c9) (n + 1) (l ++ [.int .i64 (k : Int)]) ∧
      ((W.alloc (.cells #[.int .i64 (k : Int)] TI)).drewN q).grownBy w9 (Value.slice A n c).ownBlock ∧ ((Value.slice A9 (n + 1) c9).ownBlock = (Value.slice A n c).ownBlock ∨ (Value.slice A9 (n + 1) c9).ownBlock = some (W.heap.size + 1)) := by
  obtain ⟨i0, hi, hz0, hz1, hz2⟩ := info_parts hinfo
  obtain ⟨v9, w9, hr9, hown9, hgr9, -, hbk9⟩ := run_append_own_at (P := P) (w := (W.alloc (.cells #[.int .i64 (k : Int)] TI)).drewN q) B TS TS TI i0 (.int .i64 0) 1 8 ht hi hz0 hz1 hz2 rfl (by decide) (.slice A n c) n l (h.alloc _) ⟨W.heap.size, 0, none⟩ 1 1 [.int .i64 (k : Int)] rfl (by
    intro j u hu
    cases j with
    | zero =>
      simp at hu
      subst hu
      have h9 : ((W.alloc (.cells #[.int .i64 (k : Int)] TI)).drewN q).cell? ⟨W.heap.size, 0, none⟩ = some (.int .i64 (k : Int)) := by
        show (W.alloc (.cells #[.int .i64 (k : Int)] TI)).cell? ⟨W.heap.size, 0, none⟩ = _
        rw [cell_of_row _ _ _ _ _ _ (heap_alloc_new W _)]
        rfl
      have hadd : (⟨W.heap.size, 0, none⟩ : Addr).add 0 = ⟨W.heap.size, 0, none⟩ := by unfold Addr.add; split <;> simp_all
      rw [hadd]
      exact h9
    | succ j => simp at hu) (by simp [Value.oneCell']) (by unfold maxLen; omega) (by omega) (by show B ≤ (W.alloc _).heap.size; simp; omega)
  obtain ⟨A9, c9, rfl⟩ := own_sliceV hown9
  refine ⟨A9, c9, w9, hr9, hown9, hgr9, hbk9.imp id (fun h => ?_)⟩
  rw [h]
  show some (W.alloc _).heap.size = _
  simp
theorem below_drew1 {w : World} : Below w.heap.size w w.drew := (Below.refl _ _).drew
theorem ints_drewN {w : World} {A : Option Addr} {ns : List Int} (h : IntsAt w A ns) (n : Nat) : IntsAt (w.drewN n) A ns := h
end Go.Proofs.Ytdbjbkdcmhekfaa
