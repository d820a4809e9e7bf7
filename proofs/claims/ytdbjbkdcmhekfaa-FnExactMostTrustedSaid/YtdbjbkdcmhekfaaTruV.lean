/- MostTrusted: the state of the program's search. -/
import Derived.Test.YtdbjbkdcmhekfaaTruN
import Derived.Deep.RegionWith
import Derived.Deep.RegionLaw
import Derived.Maps.AppendAt
import Derived.Stop.LaidErr
namespace Go.Proofs.Ytdbjbkdcmhekfaa
open Go.RowKit
set_option linter.unusedVariables false

def tV (t : List Nat) : List Value := (t.map Int.ofNat).map (Value.int .i64)
theorem tV_len (t : List Nat) : (tV t).length = t.length := by simp [tV]
theorem tV_app (t u : List Nat) : tV (t ++ u) = tV t ++ tV u := by simp [tV]
/-- the search's memory: its own cells, the papers taken, the best way -/
def TruAt (b : Nat) (LA : Value) (left : Int) (best : List Nat) (most : Int) (t : List Nat) (s : Int) (w : World) : Prop :=
  ∃ (At : Option Addr) (ct : Nat) (Ab : Option Addr) (cb : Nat),
    w.ownsRow b 105 6 (.slice (some ⟨b, 0, none⟩) 1 1) 1 [LA, .int .i64 left, .slice At t.length ct, .int .i64 s, .slice Ab best.length cb, .int .i64 most] ∧
    w.ownsRow (b + 1) 2 1 (.slice At t.length ct) t.length (tV t) ∧ w.ownsRow (b + 1) 2 1 (.slice Ab best.length cb) best.length (tV best) ∧
    ((Value.slice Ab best.length cb).ownBlock = none ∨ (Value.slice Ab best.length cb).ownBlock ≠ (Value.slice At t.length ct).ownBlock)
/-- the block of the papers taken -/
def takenB (b : Nat) (w : World) : Option Nat := (w.cell? ⟨b, 2, none⟩).bind Value.ownBlock
/-- only the search's own cells, the row of the papers taken and new memory turn -/
structure Kept (b : Nat) (w w' : World) : Prop where
  size : w.heap.size ≤ w'.heap.size
  same : ∀ g, g < w.heap.size → g ≠ b → takenB b w ≠ some g → w'.heap[g]? = w.heap[g]?
  tk : takenB b w' = takenB b w ∨ ∃ g, takenB b w' = some g ∧ w.heap.size ≤ g
theorem TruAt.drew {b : Nat} {LA : Value} {left most : Int} {best t : List Nat} {s : Int} {w : World} (h : TruAt b LA left best most t s w) : TruAt b LA left best most t s w.drew := h
theorem Kept.refl (b : Nat) (w : World) : Kept b w w := ⟨Nat.le_refl _, fun _ _ _ _ => rfl, .inl rfl⟩
theorem Kept.trans {b : Nat} {w w1 w2 : World} (h1 : Kept b w w1) (h2 : Kept b w1 w2) : Kept b w w2 := by
  refine ⟨Nat.le_trans h1.size h2.size, fun g hg hb ht => ?_, ?_⟩
  · refine (h2.same g (Nat.lt_of_lt_of_le hg h1.size) hb ?_).trans (h1.same g hg hb ht)
    rcases h1.tk with h3 | ⟨g3, h3, h4⟩
    · rw [h3]; exact ht
    · rw [h3]; intro e; injection e with e; omega
  · rcases h2.tk with h3 | ⟨g3, h3, h4⟩
    · rcases h1.tk with h5 | ⟨g5, h5, h6⟩
      · exact .inl (h3.trans h5)
      · exact .inr ⟨g5, h3.trans h5, h6⟩
    · exact .inr ⟨g3, h3, Nat.le_trans h1.size h4⟩
theorem Kept.cell {b : Nat} {w w' : World} (h : Kept b w w') {g i : Nat} {v : Value} (hg : g < w.heap.size) (hb : g ≠ b) (ht : takenB b w ≠ some g) (hc : w.cell? ⟨g, i, none⟩ = some v) : w'.cell? ⟨g, i, none⟩ = some v := (World.cell?_of_block (a := ⟨g, i, none⟩) (h.same g hg hb ht)).trans hc
theorem takenB_of {b : Nat} {w : World} {v : Value} (h : w.cell? ⟨b, 2, none⟩ = some v) : takenB b w = v.ownBlock := by unfold takenB; rw [h]; rfl
theorem Kept.drew {b : Nat} {w w' : World} (h : Kept b w w') : Kept b w w'.drew := ⟨h.size, h.same, h.tk⟩
theorem Kept.of_below {b : Nat} {w w' : World} (hb : b < w.heap.size) (h : Below w.heap.size w w') : Kept b w w' :=
  ⟨h.size, fun g hg _ _ => h.block g hg, .inl (by unfold takenB; rw [h.cell (p := ⟨b, 2, none⟩) hb])⟩
theorem Kept.store {b i : Nat} {v : Value} {w : World} (hi : i ≠ 2) : Kept b w (w.setCell ⟨b, i, none⟩ v) :=
  ⟨by simp, fun g _ hb _ => heap_setCell_other w _ g v hb, .inl (by
    unfold takenB
    have h9 : (w.setCell ⟨b, i, none⟩ v).cell? ⟨b, 2, none⟩ = w.cell? ⟨b, 2, none⟩ := by apply World.cell?_setCell_other; intro e; injection e with _ e; exact hi e
    rw [h9])⟩
theorem Kept.store2 {b : Nat} {v u : Value} {w : World} (hc : w.cell? ⟨b, 2, none⟩ = some u) (hv : v.ownBlock = u.ownBlock) : Kept b w (w.setCell ⟨b, 2, none⟩ v) :=
  ⟨by simp, fun g _ hb _ => heap_setCell_other w _ g v hb, .inl (by unfold takenB; rw [World.cell?_setCell_same' w _ v (by rw [hc]; rfl), hc]; exact hv)⟩
theorem kept_app {b : Nat} {W wr w9 : World} {v v9 x : Value} (hc : W.cell? ⟨b, 2, none⟩ = some v) (hal : ∀ g, g < W.heap.size → wr.heap[g]? = W.heap[g]?) (hsz : W.heap.size ≤ wr.heap.size) (hgr : wr.grownBy w9 v.ownBlock) (hbk : v9.ownBlock = v.ownBlock ∨ v9.ownBlock = some wr.heap.size) (hu : (w9.cell? ⟨b, 2, none⟩).isSome = true) :
    Kept b W ((w9.setCell ⟨b, 2, none⟩ v9).setCell ⟨b, 3, none⟩ x) ∧ Kept b W ((w9.setCell ⟨b, 3, none⟩ x).setCell ⟨b, 2, none⟩ v9) := by
  have h9 := hgr.size
  have hs : ∀ g, g < W.heap.size → g ≠ b → takenB b W ≠ some g → w9.heap[g]? = W.heap[g]? := fun g hg hb ht => by
    rw [takenB_of hc] at ht
    exact (hgr.block g (by omega) (fun e => ht e.symm)).trans (hal g hg)
  have t1 : takenB b ((w9.setCell ⟨b, 2, none⟩ v9).setCell ⟨b, 3, none⟩ x) = v9.ownBlock := by
    refine takenB_of ?_
    have h1 : ((w9.setCell ⟨b, 2, none⟩ v9).setCell ⟨b, 3, none⟩ x).cell? ⟨b, 2, none⟩ = (w9.setCell ⟨b, 2, none⟩ v9).cell? ⟨b, 2, none⟩ := by
      apply World.cell?_setCell_other
      intro e
      injection e with _ e
      exact absurd e (by decide)
    rw [h1, World.cell?_setCell_same' w9 _ v9 hu]
  have t2 : takenB b ((w9.setCell ⟨b, 3, none⟩ x).setCell ⟨b, 2, none⟩ v9) = v9.ownBlock := by
    refine takenB_of (World.cell?_setCell_same' _ _ v9 ?_)
    have h1 : (w9.setCell ⟨b, 3, none⟩ x).cell? ⟨b, 2, none⟩ = w9.cell? ⟨b, 2, none⟩ := by
      apply World.cell?_setCell_other
      intro e
      injection e with _ e
      exact absurd e (by decide)
    rw [h1]
    exact hu
  have tt : v9.ownBlock = takenB b W ∨ ∃ g, v9.ownBlock = some g ∧ W.heap.size ≤ g := by
    rw [takenB_of hc]
    rcases hbk with h | h
    · exact .inl h
    · exact .inr ⟨_, h, hsz⟩
  exact ⟨⟨by simp; omega, fun g hg hb ht => (heap_setCell_other _ _ g _ hb).trans ((heap_setCell_other _ _ g _ hb).trans (hs g hg hb ht)), by rw [t1]; exact tt⟩,
    ⟨by simp; omega, fun g hg hb ht => (heap_setCell_other _ _ g _ hb).trans ((heap_setCell_other _ _ g _ hb).trans (hs g hg hb ht)), by rw [t2]; exact tt⟩⟩
/-- a call's answer -/
def SPost (b : Nat) (w0 w : World) (LA : Value) (r : Option WS) (t : List Nat) (s : Int) (e : Ending) (w' : World) : Prop :=
  (Below b w0 w' ∧ Kept b w w') ∧ match r with
  | none => e = .returned (.bool false) ∧ ∃ best most, TruAt b LA (-1) best most t s w'
  | some S => e = .returned (.bool true) ∧ S.left ≤ 20000 ∧ TruAt b LA (S.left : Int) S.best S.most t s w'
theorem own_nil0 {w : World} {B size n c : Nat} {e : TypeId} {A : Option Addr} {l : List Value} (h : w.ownsRow B e size (.slice A n c) n l) : A = none → c = 0 := fun h0 => by
  rcases h.2 with ⟨h1, _⟩ | ⟨g, cap, cur, h1, _⟩
  · injection h1
  · rw [h0] at h1
    injection h1 with h2
    cases h2
theorem own_capP {w : World} {B size n c : Nat} {e : TypeId} {A : Option Addr} {l : List Value} (h : w.ownsRow B e size (.slice A n c) n l) : n ≤ c ∧ c ≤ 9223372036854775807 := by
  rcases h.2 with ⟨h0, h1⟩ | ⟨g', cap', cur, hv, h1, h2, h3, h4, h5, h6⟩
  · injection h0 with a1 a2 a3
    omega
  · injection hv with a1 _ a3
    unfold maxLen at h4
    omega
theorem own_shrink' {w : World} {B : Nat} {e : TypeId} {size g n c m : Nat} {xs : List Value} (h : w.ownsRow B e size (.slice (some ⟨g, 0, none⟩) n c) n xs) (hm : m ≤ n) : w.ownsRow B e size (.slice (some ⟨g, 0, none⟩) m c) m (xs.take (m * size)) := by
  obtain ⟨h1, h2⟩ := h
  have hmul : m * size ≤ n * size := Nat.mul_le_mul_right _ hm
  rcases h2 with ⟨h0, _⟩ | ⟨g', cap, cur, hv, hb, hh, hc, hcm, hsz, ht⟩
  · cases h0
  · cases hv
    refine ⟨by rw [List.length_take, h1]; omega, .inr ⟨g, c, cur, rfl, hb, hh, by omega, hcm, hsz, ?_⟩⟩
    rw [← ht, List.take_take, Nat.min_eq_left hmul]
/-- a row of the call's own, a cell of a block below stored -/
theorem own_apart {w : World} {B size m n cap : Nat} {e : TypeId} {A : Option Addr} {xs : List Value} (h : w.ownsRow B e size (.slice A n cap) m xs) {p : Addr} (hlt : p.block < B) (u : Value) : (w.setCell p u).ownsRow B e size (.slice A n cap) m xs :=
  h.kept (row := some p.block) ⟨rfl, rfl, rfl, by simp, fun k _ hk => heap_setCell_other w p k u (fun e => hk (by rw [e]))⟩ (by
    cases hb : (Value.slice A n cap).ownBlock with
    | none => exact .inl rfl
    | some g =>
      have h2 := (h.lt g hb).1
      exact .inr (by simp; omega))
theorem cloneT_ok (A : Option Addr) (c : Nat) (t : List Nat) (w : World) {B : Nat} (hT : w.ownsRow B 2 1 (.slice A t.length c) t.length (tV t)) (hn : t.length ≤ 1048576) :
    Calls Try.prog 137 #[.slice A t.length c] w fun e w' => ∃ A' c', e = .returned (.slice A' t.length c') ∧ w'.ownsRow w.heap.size 2 1 (.slice A' t.length c') t.length (tV t) ∧ Below w.heap.size w w' := by
  have h := cloneInt_ok A c (t.map Int.ofNat) w (ints_own hT) (by simpa using hn) (own_nil0 hT)
  rw [List.length_map] at h
  refine h.mono ?_
  rintro e w' ⟨A', c', rfl, ho, _, hb⟩
  rw [List.length_map] at ho
  exact ⟨A', c', by rw [List.length_map], ho, hb⟩
theorem own_sliceV {w : World} {B n size : Nat} {e : TypeId} {v : Value} {l : List Value} (h : w.ownsRow B e size v n l) : ∃ A c, v = .slice A n c := by
  rcases h.2 with ⟨rfl, h0⟩ | ⟨g, cap, cur, rfl, _⟩
  · subst h0
    exact ⟨_, _, rfl⟩
  · exact ⟨_, _, rfl⟩
/-- append, as one step of a region that draws, and which block the row then lies in -/
theorem step_app2 {P : Program} {wr w0 : World} {ops : Array Oper} {o : Oper} {a : Act} {K : Act → World → Prop} {Q : Exit → Act → World → Prop} {E : Prop} (hgd : o.guard = none) (s x : Operand) (t : TypeId)
    (ho : o.op = .call { callee := .builtin .append, args := #[s, x], argTypes := #[t, t] })
    (B : Nat) (e : TypeId) (z : Value) (size bytes : Nat) (ht : P.underlying t = some (.slice e)) (hinfo : (P.info? e).map (fun i => (i.zero, i.size, i.bytes)) = some (some z, size, bytes)) (hzs : z.cells.size = size) (hsz : 0 < size)
    (v : Value) (n : Nat) (xs : List Value) (hs : a.eval s = v) (hown : wr.ownsRow B e size v n xs)
    (ad : Addr) (m c : Nat) (news : List Value) (hx : a.eval x = .slice (some ad) m c) (hl : news.length = m * size) (hnews : ∀ j u, news[j]? = some u → wr.cell? (ad.add j) = some u) (h1 : ∀ u ∈ news, u.oneCell' = true)
    (hbytes : (n + m) * (bytes + 1) ≤ 140737488355328) (hbase : B ≤ wr.heap.size) (hbel : Below B w0 wr)
    (h : ∀ v' w', w'.ownsRow B e size v' (n + m) (xs ++ news) → Below B w0 w' → wr.grownBy w' v.ownBlock → (v'.ownBlock = v.ownBlock ∨ v'.ownBlock = some wr.heap.size) → K (a.put o.dst v') w') :
    if Region.wanted o (yielded ops a.tmps) = true then Oper.wp P o a wr K Q else E := by
  have hw : Region.wanted o (yielded ops a.tmps) = true := by simp [Region.wanted, hgd]
  rw [if_pos hw]
  obtain ⟨i0, hi, hz0, hz1, hz2⟩ := info_parts hinfo
  have hnm : n + m ≤ (n + m) * (bytes + 1) := Nat.le_mul_of_pos_right _ (by omega)
  have hb2 : (n + m) * bytes ≤ (n + m) * (bytes + 1) := Nat.mul_le_mul_left _ (by omega)
  obtain ⟨v', w', hr, h2, h3, h4, h5⟩ := run_append_own_at (P := P) (w := wr) B t o.type e i0 z size bytes ht hi hz0 hz1 hz2 hzs hsz v n xs hown ad m c news hl hnews h1 (by unfold maxLen; omega) (by omega) hbase
  unfold Oper.wp execOp
  simp only [ho, resolve, invoke, builtin, Sem.run_bind, Sem.run_pure, Result.andThen_ok, List.map_toArray, List.map_cons, List.map_nil, hs, hx, hr]
  exact h v' w' h2 (hbel.grown h3 hbase (fun k hk => (hown.lt k hk).1)) h3 h5
theorem apart_new {W w3 : World} {B : Nat} {e : TypeId} {size n n3 : Nat} {v v3 : Value} {xs ys : List Value} (h : W.ownsRow B e size v n xs) (h3 : w3.ownsRow W.heap.size e size v3 n3 ys) : v3.ownBlock = none ∨ v3.ownBlock ≠ v.ownBlock := by
  cases hb : v3.ownBlock with
  | none => exact .inl rfl
  | some g =>
    refine .inr fun h2 => ?_
    have h4 := (h3.lt g hb).1
    have h5 := (h.lt g h2.symm).2
    omega
theorem leaf_at {b : Nat} {LA : Value} {left most : Int} {best t : List Nat} {s : Int} {At Ab A3 : Option Addr} {ct cb c3 : Nat} {W w3 : World} (hO : w3.ownsRow b 105 6 (.slice (some ⟨b, 0, none⟩) 1 1) 1 [LA, .int .i64 left, .slice At t.length ct, .int .i64 s, .slice Ab best.length cb, .int .i64 most]) (hT : w3.ownsRow (b + 1) 2 1 (.slice At t.length ct) t.length (tV t)) (hTW : W.ownsRow (b + 1) 2 1 (.slice At t.length ct) t.length (tV t)) (h3 : w3.ownsRow W.heap.size 2 1 (.slice A3 t.length c3) t.length (tV t)) (hlt : b < W.heap.size) :
    TruAt b LA left t s t s ((w3.setCell ⟨b, 4, none⟩ (.slice A3 t.length c3)).setCell ⟨b, 5, none⟩ (.int .i64 s)) ∧ TruAt b LA left t s t s ((w3.setCell ⟨b, 5, none⟩ (.int .i64 s)).setCell ⟨b, 4, none⟩ (.slice A3 t.length c3)) := by
  have h3' := own_mono h3 (show b + 1 ≤ W.heap.size by omega)
  exact ⟨⟨At, ct, A3, c3, own_setCells [.int .i64 s] (p := 5) (own_setCells [.slice A3 t.length c3] (p := 4) hO), own_apart (own_apart hT (by simp) _) (by simp) _, own_apart (own_apart h3' (by simp) _) (by simp) _, apart_new hTW h3⟩,
    ⟨At, ct, A3, c3, own_setCells [.slice A3 t.length c3] (p := 4) (own_setCells [.int .i64 s] (p := 5) hO), own_apart (own_apart hT (by simp) _) (by simp) _, own_apart (own_apart h3' (by simp) _) (by simp) _, apart_new hTW h3⟩⟩
theorem node_at {b : Nat} {LA : Value} {left most : Int} {best t : List Nat} {s : Int} {w : World} (h : TruAt b LA left best most t s w) : TruAt b LA (left - 1) best most t s (w.setCell ⟨b, 1, none⟩ (.int .i64 (left - 1))) := by
  obtain ⟨At, ct, Ab, cb, ho, htk, hbs, hap⟩ := h
  exact ⟨At, ct, Ab, cb, own_setCells [.int .i64 (left - 1)] (p := 1) ho, own_apart htk (by simp) _, own_apart hbs (by simp) _, hap⟩
theorem TruAt.below {b : Nat} {LA : Value} {left most : Int} {best t : List Nat} {s : Int} {w w' : World} (h : TruAt b LA left best most t s w) (hb : Below w.heap.size w w') : TruAt b LA left best most t s w' := by
  obtain ⟨At, ct, Ab, cb, ho, htk, hbs, hap⟩ := h
  exact ⟨At, ct, Ab, cb, own_below ho hb, own_below htk hb, own_below hbs hb, hap⟩
/-- one paper more taken -/
theorem take_at {b k : Nat} {LA : Value} {left most : Int} {best t : List Nat} {s tr : Int} {At Ab A3 : Option Addr} {ct cb c3 : Nat} {w3 : World} (hO : w3.ownsRow b 105 6 (.slice (some ⟨b, 0, none⟩) 1 1) 1 [LA, .int .i64 left, .slice At t.length ct, .int .i64 s, .slice Ab best.length cb, .int .i64 most]) (h3 : w3.ownsRow (b + 1) 2 1 (.slice A3 (t.length + 1) c3) (t.length + 1) (tV (t ++ [k]))) (hS : w3.ownsRow (b + 1) 2 1 (.slice Ab best.length cb) best.length (tV best)) (hap : (Value.slice Ab best.length cb).ownBlock = none ∨ (Value.slice Ab best.length cb).ownBlock ≠ (Value.slice A3 (t.length + 1) c3).ownBlock) :
    TruAt b LA left best most (t ++ [k]) (s + tr) ((w3.setCell ⟨b, 2, none⟩ (.slice A3 (t.length + 1) c3)).setCell ⟨b, 3, none⟩ (.int .i64 (s + tr))) ∧ TruAt b LA left best most (t ++ [k]) (s + tr) ((w3.setCell ⟨b, 3, none⟩ (.int .i64 (s + tr))).setCell ⟨b, 2, none⟩ (.slice A3 (t.length + 1) c3)) := by
  have e : (t ++ [k]).length = t.length + 1 := by simp
  unfold TruAt
  rw [e]
  exact ⟨⟨A3, c3, Ab, cb, own_setCells [.int .i64 (s + tr)] (p := 3) (own_setCells [.slice A3 (t.length + 1) c3] (p := 2) hO), own_apart (own_apart h3 (by simp) _) (by simp) _, own_apart (own_apart hS (by simp) _) (by simp) _, hap⟩,
    ⟨A3, c3, Ab, cb, own_setCells [.slice A3 (t.length + 1) c3] (p := 2) (own_setCells [.int .i64 (s + tr)] (p := 3) hO), own_apart (own_apart h3 (by simp) _) (by simp) _, own_apart (own_apart hS (by simp) _) (by simp) _, hap⟩⟩
/-- .. and given back -/
theorem give_at {b k g : Nat} {LA : Value} {left most : Int} {best t : List Nat} {s s' : Int} {Ab : Option Addr} {ct cb : Nat} {w : World} (hO : w.ownsRow b 105 6 (.slice (some ⟨b, 0, none⟩) 1 1) 1 [LA, .int .i64 left, .slice (some ⟨g, 0, none⟩) (t ++ [k]).length ct, .int .i64 s', .slice Ab best.length cb, .int .i64 most]) (hT : w.ownsRow (b + 1) 2 1 (.slice (some ⟨g, 0, none⟩) (t ++ [k]).length ct) (t ++ [k]).length (tV (t ++ [k]))) (hS : w.ownsRow (b + 1) 2 1 (.slice Ab best.length cb) best.length (tV best)) (hap : (Value.slice Ab best.length cb).ownBlock = none ∨ (Value.slice Ab best.length cb).ownBlock ≠ (Value.slice (some ⟨g, 0, none⟩) (t ++ [k]).length ct).ownBlock) :
    TruAt b LA left best most t s ((w.setCell ⟨b, 2, none⟩ (.slice (some ⟨g, 0, none⟩) t.length ct)).setCell ⟨b, 3, none⟩ (.int .i64 s)) ∧ TruAt b LA left best most t s ((w.setCell ⟨b, 3, none⟩ (.int .i64 s)).setCell ⟨b, 2, none⟩ (.slice (some ⟨g, 0, none⟩) t.length ct)) := by
  have h1 := own_shrink' hT (show t.length ≤ (t ++ [k]).length by simp)
  rw [tV_app, List.take_left' (by rw [tV_len]; omega)] at h1
  exact ⟨⟨some ⟨g, 0, none⟩, ct, Ab, cb, own_setCells [.int .i64 s] (p := 3) (own_setCells [.slice (some ⟨g, 0, none⟩) t.length ct] (p := 2) hO), own_apart (own_apart h1 (by simp) _) (by simp) _, own_apart (own_apart hS (by simp) _) (by simp) _, hap⟩,
    ⟨some ⟨g, 0, none⟩, ct, Ab, cb, own_setCells [.slice (some ⟨g, 0, none⟩) t.length ct] (p := 2) (own_setCells [.int .i64 s] (p := 3) hO), own_apart (own_apart h1 (by simp) _) (by simp) _, own_apart (own_apart hS (by simp) _) (by simp) _, hap⟩⟩
end Go.Proofs.Ytdbjbkdcmhekfaa
