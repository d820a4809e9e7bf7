/- PlaceWorks: the states of both searches. -/
import Derived.Test.YtdbjbkdcmhekfaaPlcG
namespace Go.Proofs.Ytdbjbkdcmhekfaa
open Go.RowKit
set_option linter.unusedVariables false

def PlaS (b p cp n : Nat) (LA : Value) (left : Int) (w : World) : Prop := w.ownsRow b 136 3 (.slice (some ⟨b, 0, none⟩) 1 1) 1 [LA, .slice (some ⟨p, 0, none⟩) n cp, .int .i64 left]
theorem PlaS.below {b p cp n : Nat} {LA : Value} {left : Int} {w w' : World} (h : PlaS b p cp n LA left w) (hb : Below w.heap.size w w') : PlaS b p cp n LA left w' := own_below h hb
theorem PlaS.side {b p cp n g : Nat} {LA : Value} {left : Int} {w w' : World} (h : PlaS b p cp n LA left w) (q : Chg g (g + 1) w w') (hg : b < g) : PlaS b p cp n LA left w' := own_other1 h q (by omega)
theorem PlaS.lt {b p cp n : Nat} {LA : Value} {left : Int} {w : World} (h : PlaS b p cp n LA left w) : b < w.heap.size := (World.ownsRow.lt h b rfl).2
def PlrS (b p cp n : Nat) (LA : Value) (nodes : Int) (bud : Int) (full : Bool) (w : World) : Prop := w.ownsRow b 196 5 (.slice (some ⟨b, 0, none⟩) 1 1) 1 [LA, .slice (some ⟨p, 0, none⟩) n cp, .int .i64 nodes, .int .i64 bud, .bool full]
theorem PlrS.below {b p cp n : Nat} {LA : Value} {nodes : Int} {bud : Int} {full : Bool} {w w' : World} (h : PlrS b p cp n LA nodes bud full w) (hb : Below w.heap.size w w') : PlrS b p cp n LA nodes bud full w' := own_below h hb
theorem PlrS.side {b p cp n g : Nat} {LA : Value} {nodes : Int} {bud : Int} {full : Bool} {w w' : World} (h : PlrS b p cp n LA nodes bud full w) (q : Chg g (g + 1) w w') (hg : b < g) : PlrS b p cp n LA nodes bud full w' := own_other1 h q (by omega)
theorem PlrS.lt {b p cp n : Nat} {LA : Value} {nodes : Int} {bud : Int} {full : Bool} {w : World} (h : PlrS b p cp n LA nodes bud full w) : b < w.heap.size := (World.ownsRow.lt h b rfl).2

theorem chg_one (w : World) (b i : Nat) (v : Value) : Chg b (b + 1) w (w.setCell ⟨b, i, none⟩ v) := (Chg.refl _ _ _).setCell v (Nat.le_refl _) (Nat.lt_succ_self _)
theorem PlaS.setLeft {b p cp n : Nat} {LA : Value} {left : Int} {w : World} (h : PlaS b p cp n LA left w) (v : Int) : PlaS b p cp n LA v (w.setCell ⟨b, 2, none⟩ (.int .i64 v)) := own_setCells [.int .i64 v] (p := 2) h
theorem PlrS.setNodes {b p cp n : Nat} {LA : Value} {nodes bud : Int} {full : Bool} {w : World} (h : PlrS b p cp n LA nodes bud full w) (v : Int) : PlrS b p cp n LA v bud full (w.setCell ⟨b, 2, none⟩ (.int .i64 v)) := own_setCells [.int .i64 v] (p := 2) h
theorem PlrS.setFull {b p cp n : Nat} {LA : Value} {nodes bud : Int} {full : Bool} {w : World} (h : PlrS b p cp n LA nodes bud full w) : PlrS b p cp n LA nodes bud true (w.setCell ⟨b, 4, none⟩ (.bool true)) := own_setCells [.bool true] (p := 4) h
/-- only the struct, the rows and new memory turn -/
structure Kp (b : Nat) (gs : List Nat) (w w' : World) : Prop where
  size : w.heap.size ≤ w'.heap.size
  same : ∀ g, g < w.heap.size → g ≠ b → g ∉ gs → w'.heap[g]? = w.heap[g]?
theorem Kp.refl (b : Nat) (gs : List Nat) (w : World) : Kp b gs w w := ⟨Nat.le_refl _, fun _ _ _ _ => rfl⟩
theorem Kp.trans {b : Nat} {gs : List Nat} {w w1 w2 : World} (h1 : Kp b gs w w1) (h2 : Kp b gs w1 w2) : Kp b gs w w2 := ⟨Nat.le_trans h1.size h2.size, fun g hg hb hm => (h2.same g (Nat.lt_of_lt_of_le hg h1.size) hb hm).trans (h1.same g hg hb hm)⟩
theorem Kp.of_below {b : Nat} {gs : List Nat} {w w' : World} (h : Below w.heap.size w w') : Kp b gs w w' := ⟨h.size, fun g hg _ _ => h.block g hg⟩
theorem Kp.of_struct {b : Nat} {gs : List Nat} {w w' : World} (h : Chg b (b + 1) w w') : Kp b gs w w' := ⟨h.size, fun g hg hb _ => h.block g hg (by omega)⟩
theorem Kp.of_row {b g : Nat} {gs : List Nat} {w w' : World} (h : Chg g (g + 1) w w') (hm : g ∈ gs) : Kp b gs w w' := ⟨h.size, fun k hk _ hkm => h.block k hk (by
  have : k ≠ g := fun e => hkm (e ▸ hm)
  omega)⟩
theorem Kp.drewN {b : Nat} {gs : List Nat} {w w' : World} (h : Kp b gs w w') (m : Nat) : Kp b gs w (w'.drewN m) := ⟨h.size, h.same⟩
/-- a work's copy -/
structure XW (xb : Nat) (ps : List Value) (w : World) : Prop where
  lt : xb < w.heap.size
  cell : ∀ (i : Nat) (v : Value), ps[i]? = some v → w.cell? ⟨xb, i, none⟩ = some v
theorem XW.kept {xb b : Nat} {gs : List Nat} {ps : List Value} {w w' : World} (h : XW xb ps w) (k : Kp b gs w w') (hb : xb ≠ b) (hm : xb ∉ gs) : XW xb ps w' :=
  ⟨Nat.lt_of_lt_of_le h.lt k.size, fun i v hi => (World.cell?_of_block (a := ⟨xb, i, none⟩) (k.same xb h.lt hb hm)).trans (h.cell i v hi)⟩
theorem rows_back {rows : List (List Int)} {k : Nat} {r r' : List Int} (h : rows[k]? = some r) : (rows.set k r').set k r = rows := by
  rw [List.set_set]
  apply List.ext_getElem?
  intro i
  by_cases hi : k = i
  · subst hi
    rw [List.getElem?_set_self ((List.getElem?_eq_some_iff.1 h).1), h]
  · rw [List.getElem?_set_ne hi]
theorem free_gen (g : Nat) (r : List Int) (f n : Nat) (fi di : Int) (w : World) (ho : w.ownsRow g 2 1 (gV g) 40 (iVP r)) (hf : f ≤ 1000) (hn : n ≤ 40) (hn1 : 1 ≤ n) (hfi : fi = (f : Int)) (hdi : di = (n : Int)) (z : Bool) (hz : freeB r f n = z) :
    Calls Try.prog 147 #[.slice (some ⟨g, 0, none⟩) 40 40, .int .i64 fi, .int .i64 di] w fun e w' => e = .returned (.bool z) ∧ w = w' := by
  subst hfi hdi hz
  exact free_ok g r f n w ho hf hn hn1
theorem l18Free_gen (g : Nat) (r : List Int) (f n : Nat) (fi di : Int) (w : World) (ho : w.ownsRow g 2 1 (gV g) 40 (iVP r)) (hf : f ≤ 1000) (hn : n ≤ 40) (hn1 : 1 ≤ n) (hfi : fi = (f : Int)) (hdi : di = (n : Int)) (z : Bool) (hz : freeB r f n = z) :
    Calls Try.prog 178 #[.slice (some ⟨g, 0, none⟩) 40 40, .int .i64 fi, .int .i64 di] w fun e w' => e = .returned (.bool z) ∧ w = w' := by
  subst hfi hdi hz
  exact l18Free_ok g r f n w ho hf hn hn1
theorem fill_gen (g : Nat) (r : List Int) (f n : Nat) (fi di v : Int) (w : World) (ho : w.ownsRow g 2 1 (gV g) 40 (iVP r)) (hf : f + n ≤ 40) (hfi : fi = (f : Int)) (hdi : di = (n : Int)) :
    Calls Try.prog 148 #[.slice (some ⟨g, 0, none⟩) 40 40, .int .i64 fi, .int .i64 di, .int .i64 v] w fun e w' => e = .returned (.tuple #[]) ∧ w'.ownsRow g 2 1 (gV g) 40 (iVP (fillT r f v n)) ∧ Chg g (g + 1) w w' := by
  subst hfi hdi
  exact fill_ok g r f n v w ho hf
theorem l18Put_gen (g : Nat) (r : List Int) (f n : Nat) (fi di v : Int) (w : World) (ho : w.ownsRow g 2 1 (gV g) 40 (iVP r)) (hf : f + n ≤ 40) (hfi : fi = (f : Int)) (hdi : di = (n : Int)) :
    Calls Try.prog 179 #[.slice (some ⟨g, 0, none⟩) 40 40, .int .i64 fi, .int .i64 di, .int .i64 v] w fun e w' => e = .returned (.tuple #[]) ∧ w'.ownsRow g 2 1 (gV g) 40 (iVP (fillT r f v n)) ∧ Chg g (g + 1) w w' := by
  subst hfi hdi
  exact l18Put_ok g r f n v w ho hf
/-- a call's answer -/
def KPostP (b p cp n E : Nat) (gs : List Nat) (w0 w : World) (LA : Value) (r : Plc) (rows : List (List Int)) (e : Ending) (w' : World) : Prop :=
  (Below b w0 w' ∧ Kp b gs w w') ∧ match r with
  | .full => e = .returned (.tuple #[.bool false, .bool false])
  | .solved p2 => e = .returned (.tuple #[.bool true, .bool true]) ∧ ∃ left, PlaS b p cp n LA left w' ∧ PlanR w' (b + 1) E p cp gs p2
  | .fail l => e = .returned (.tuple #[.bool false, .bool true]) ∧ l ≤ 20000 ∧ PlaS b p cp n LA (l : Int) w' ∧ PlanR w' (b + 1) E p cp gs rows
def LPostP (b p cp n E : Nat) (gs : List Nat) (w0 : World) (LA : Value) (bud : Int) (r : Plc) (rows : List (List Int)) (e : Ending) (w' : World) : Prop :=
  Below b w0 w' ∧ match r with
  | .full => e = .returned (.bool false) ∧ PlrS b p cp n LA bud bud true w' ∧ PlanR w' (b + 1) E p cp gs rows
  | .solved p2 => e = .returned (.bool true) ∧ ∃ nodes full, PlrS b p cp n LA nodes bud full w' ∧ PlanR w' (b + 1) E p cp gs p2
  | .fail l => e = .returned (.bool false) ∧ (l : Int) ≤ bud ∧ PlrS b p cp n LA (bud - (l : Int)) bud false w' ∧ PlanR w' (b + 1) E p cp gs rows

end Go.Proofs.Ytdbjbkdcmhekfaa
