/- GlueJoints: the states of the program's and of the reference's search. -/
import Derived.Test.YtdbjbkdcmhekfaaSrchK
import Derived.Test.YtdbjbkdcmhekfaaGluG
import Derived.Test.YtdbjbkdcmhekfaaCloneI
import Derived.Test.YtdbjbkdcmhekfaaApp2
import Derived.Test.YtdbjbkdcmhekfaaHeldK
import Derived.Deep.QuietTactic
namespace Go.Proofs.Ytdbjbkdcmhekfaa
open Go.RowKit
set_option linter.unusedVariables false

section
variable {M : Nat → Prop}
def GluS (b : Nat) (LA : Value) (NA : Value) (RA : Value) (left : Int) (t : List Nat) (sum : Int) (best : List Nat) (most : Int) (found : Bool) (w : World) : Prop :=
  ∃ (At : Option Addr) (ct : Nat) (Ab : Option Addr) (cb : Nat), w.ownsRow b 166 9 (.slice (some ⟨b, 0, none⟩) 1 1) 1 [LA, NA, RA, .int .i64 left, .slice At t.length ct, .int .i64 sum, .slice Ab best.length cb, .int .i64 most, .bool found] ∧ w.ownsRow (b + 1) 2 1 (.slice At t.length ct) t.length (tV t) ∧ w.ownsRow (b + 1) 2 1 (.slice Ab best.length cb) best.length (tV best) ∧ ((Value.slice Ab best.length cb).ownBlock = none ∨ (Value.slice Ab best.length cb).ownBlock ≠ (Value.slice At t.length ct).ownBlock)
theorem GluS.below {b : Nat} {LA : Value} {NA : Value} {RA : Value} {left : Int} {t : List Nat} {sum : Int} {best : List Nat} {most : Int} {found : Bool} {w w' : World} (h : GluS b LA NA RA left t sum best most found w) (hb : Below w.heap.size w w') : GluS b LA NA RA left t sum best most found w' := by
  obtain ⟨At, ct, Ab, cb, ho, htk, hbs, hap⟩ := h
  exact ⟨At, ct, Ab, cb, own_below ho hb, own_below htk hb, own_below hbs hb, hap⟩
theorem GluS.lt {b : Nat} {LA : Value} {NA : Value} {RA : Value} {left : Int} {t : List Nat} {sum : Int} {best : List Nat} {most : Int} {found : Bool} {w : World} (h : GluS b LA NA RA left t sum best most found w) : b < w.heap.size := by
  obtain ⟨At, ct, Ab, cb, ho, htk, hbs, hap⟩ := h
  exact (ho.lt b rfl).2
theorem GluS.drewN {b : Nat} {LA : Value} {NA : Value} {RA : Value} {left : Int} {t : List Nat} {sum : Int} {best : List Nat} {most : Int} {found : Bool} {w : World} (h : GluS b LA NA RA left t sum best most found w) (n : Nat) : GluS b LA NA RA left t sum best most found (w.drewN n) := h
theorem GluS.drew {b : Nat} {LA : Value} {NA : Value} {RA : Value} {left : Int} {t : List Nat} {sum : Int} {best : List Nat} {most : Int} {found : Bool} {w : World} (h : GluS b LA NA RA left t sum best most found w) : GluS b LA NA RA left t sum best most found w.drew := h
/-- one way more -/
theorem GluS.take {b k : Nat} {LA : Value} {NA : Value} {RA : Value} {left : Int} {t : List Nat} {sum : Int} {best : List Nat} {most : Int} {found : Bool} {At Ab A9 : Option Addr} {ct cb c9 q : Nat} {w w9 : World} (hO : w.ownsRow b 166 9 (.slice (some ⟨b, 0, none⟩) 1 1) 1 [LA, NA, RA, .int .i64 left, .slice At t.length ct, .int .i64 sum, .slice Ab best.length cb, .int .i64 most, .bool found]) (hT : w.ownsRow (b + 1) 2 1 (.slice At t.length ct) t.length (tV t)) (hS : w.ownsRow (b + 1) 2 1 (.slice Ab best.length cb) best.length (tV best)) (hap : ((Value.slice Ab best.length cb).ownBlock = none ∨ (Value.slice Ab best.length cb).ownBlock ≠ (Value.slice At t.length ct).ownBlock))
    (hown : w9.ownsRow (b + 1) 2 1 (.slice A9 (t.length + 1) c9) (t.length + 1) (tV t ++ [.int .i64 (k : Int)])) (hgr : ((w.alloc (.cells #[.int .i64 (k : Int)] 2)).drewN q).grownBy w9 (Value.slice At t.length ct).ownBlock) (hbk : (Value.slice A9 (t.length + 1) c9).ownBlock = (Value.slice At t.length ct).ownBlock ∨ (Value.slice A9 (t.length + 1) c9).ownBlock = some (w.heap.size + 1)) :
    (Below b w (w9.setCell ⟨b, 4, none⟩ (.slice A9 (t.length + 1) c9)) ∧ Kept b 4 M w (w9.setCell ⟨b, 4, none⟩ (.slice A9 (t.length + 1) c9)) ∧ GluS b LA NA RA left (t ++ [k]) sum best most found (w9.setCell ⟨b, 4, none⟩ (.slice A9 (t.length + 1) c9))) ∧ w9.cell? ⟨b, 4, none⟩ = some (.slice At t.length ct) ∧ w9.frozen? ⟨b, 4, none⟩ = false := by
  have hbw := (hO.lt b rfl).2
  have hneb : (Value.slice (some ⟨b, 0, none⟩) 1 1).ownBlock ≠ (Value.slice At t.length ct).ownBlock := fun e => by
    have := (hT.lt b e.symm).1
    omega
  have O9 := World.ownsRow.kept (w := (w.alloc (.cells #[.int .i64 (k : Int)] 2)).drewN q) (hO.alloc (.cells #[.int .i64 (k : Int)] 2)) hgr (.inr hneb)
  have S9 := World.ownsRow.kept (w := (w.alloc (.cells #[.int .i64 (k : Int)] 2)).drewN q) (hS.alloc (.cells #[.int .i64 (k : Int)] 2)) hgr hap
  have e : (t ++ [k]).length = t.length + 1 := by simp
  have N9 : w9.ownsRow (b + 1) 2 1 (.slice A9 (t.length + 1) c9) (t.length + 1) (tV (t ++ [k])) := by rw [tV_app]; exact hown
  have hsz9 : ((w.alloc (.cells #[.int .i64 (k : Int)] 2)).drewN q).heap.size = w.heap.size + 1 := by show (w.alloc _).heap.size = _; simp
  have BA : Below b w ((w.alloc (.cells #[.int .i64 (k : Int)] 2)).drewN q) := below_drewN' ((Below.refl b w).alloc (Nat.le_of_lt hbw) (.cells #[.int .i64 (k : Int)] 2)) q
  have B9 : Below b w w9 := BA.grown hgr (by rw [hsz9]; omega) (fun g hg => Nat.le_of_succ_le (hT.lt g hg).1)
  refine ⟨⟨B9.setCell (p := ⟨b, 4, none⟩) (Nat.le_refl _) _, ?_, ?_⟩, O9.cellAt 4 (by omega), O9.frozenAt 4⟩
  · exact kept_app (wr := (w.alloc (.cells #[.int .i64 (k : Int)] 2)).drewN q) (hO.cellAt 4 (by omega)) (fun g hg => heap_alloc_old w _ hg) (by rw [hsz9]; omega) hgr (by rw [hsz9]; exact hbk) (by rw [O9.cellAt 4 (by omega)]; rfl)
  · unfold GluS
    rw [e]
    refine ⟨A9, c9, Ab, cb, own_setCells [.slice A9 (t.length + 1) c9] (p := 4) O9, own_apart N9 (by simp) _, own_apart S9 (by simp) _, ?_⟩
    rcases hbk with h | h
    · rw [h]; exact hap
    · cases hb : (Value.slice Ab best.length cb).ownBlock with
      | none => exact .inl rfl
      | some g2 =>
        refine .inr (fun e => ?_)
        have := (hS.lt g2 hb).2
        rw [h] at e
        injection e with e
        omega
/-- .. and given back -/
theorem GluS.cut {b k : Nat} {LA : Value} {NA : Value} {RA : Value} {left : Int} {t : List Nat} {sum : Int} {best : List Nat} {most : Int} {found : Bool} {w : World} (h : GluS b LA NA RA left (t ++ [k]) sum best most found w) :
    ∃ g c, ((t.length ≤ c ∧ ¬ c = 0) ∧ c ≤ 9223372036854775807) ∧ w.cell? ⟨b, 4, none⟩ = some (.slice (some ⟨g, 0, none⟩) (t.length + 1) c) ∧ w.frozen? ⟨b, 4, none⟩ = false ∧
      GluS b LA NA RA left t sum best most found (w.setCell ⟨b, 4, none⟩ (.slice (some ⟨g, 0, none⟩) t.length c)) ∧ Kept b 4 M w (w.setCell ⟨b, 4, none⟩ (.slice (some ⟨g, 0, none⟩) t.length c)) ∧ Below b w (w.setCell ⟨b, 4, none⟩ (.slice (some ⟨g, 0, none⟩) t.length c)) := by
  obtain ⟨At, ct, Ab, cb, hO, hT, hS, hap⟩ := h
  obtain ⟨g, cg, hv, -, -, -⟩ := own_form hT (by simp)
  injection hv with a1 a2 a3
  subst a1 a3
  have hcp := own_capP hT
  have e : (t ++ [k]).length = t.length + 1 := by simp
  rw [e] at hO hT hcp hap
  have h1 := own_shrink' hT (show t.length ≤ t.length + 1 by omega)
  rw [tV_app, List.take_left' (by rw [tV_len]; omega)] at h1
  have hc := hO.cellAt 4 (by omega)
  exact ⟨g, ct, ⟨⟨by omega, by omega⟩, by omega⟩, hc, hO.frozenAt 4, ⟨some ⟨g, 0, none⟩, ct, Ab, cb, own_setCells [.slice (some ⟨g, 0, none⟩) t.length ct] (p := 4) hO, own_apart h1 (by simp) _, own_apart hS (by simp) _, hap⟩, Kept.store2 hc rfl, (Below.refl b w).setCell (p := ⟨b, 4, none⟩) (Nat.le_refl _) _⟩
def GlrS (b : Nat) (LA : Value) (NA : Value) (RA : Value) (t : List Nat) (best : List Nat) (most : Int) (nodes : Int) (bud : Int) (full : Bool) (w : World) : Prop :=
  ∃ (At : Option Addr) (ct : Nat) (Ab : Option Addr) (cb : Nat), w.ownsRow b 160 9 (.slice (some ⟨b, 0, none⟩) 1 1) 1 [LA, NA, RA, .slice At t.length ct, .slice Ab best.length cb, .int .i64 most, .int .i64 nodes, .int .i64 bud, .bool full] ∧ w.ownsRow (b + 1) 2 1 (.slice At t.length ct) t.length (tV t) ∧ w.ownsRow (b + 1) 2 1 (.slice Ab best.length cb) best.length (tV best) ∧ ((Value.slice Ab best.length cb).ownBlock = none ∨ (Value.slice Ab best.length cb).ownBlock ≠ (Value.slice At t.length ct).ownBlock)
theorem GlrS.below {b : Nat} {LA : Value} {NA : Value} {RA : Value} {t : List Nat} {best : List Nat} {most : Int} {nodes : Int} {bud : Int} {full : Bool} {w w' : World} (h : GlrS b LA NA RA t best most nodes bud full w) (hb : Below w.heap.size w w') : GlrS b LA NA RA t best most nodes bud full w' := by
  obtain ⟨At, ct, Ab, cb, ho, htk, hbs, hap⟩ := h
  exact ⟨At, ct, Ab, cb, own_below ho hb, own_below htk hb, own_below hbs hb, hap⟩
theorem GlrS.lt {b : Nat} {LA : Value} {NA : Value} {RA : Value} {t : List Nat} {best : List Nat} {most : Int} {nodes : Int} {bud : Int} {full : Bool} {w : World} (h : GlrS b LA NA RA t best most nodes bud full w) : b < w.heap.size := by
  obtain ⟨At, ct, Ab, cb, ho, htk, hbs, hap⟩ := h
  exact (ho.lt b rfl).2
theorem GlrS.drewN {b : Nat} {LA : Value} {NA : Value} {RA : Value} {t : List Nat} {best : List Nat} {most : Int} {nodes : Int} {bud : Int} {full : Bool} {w : World} (h : GlrS b LA NA RA t best most nodes bud full w) (n : Nat) : GlrS b LA NA RA t best most nodes bud full (w.drewN n) := h
theorem GlrS.drew {b : Nat} {LA : Value} {NA : Value} {RA : Value} {t : List Nat} {best : List Nat} {most : Int} {nodes : Int} {bud : Int} {full : Bool} {w : World} (h : GlrS b LA NA RA t best most nodes bud full w) : GlrS b LA NA RA t best most nodes bud full w.drew := h
/-- one way more -/
theorem GlrS.take {b k : Nat} {LA : Value} {NA : Value} {RA : Value} {t : List Nat} {best : List Nat} {most : Int} {nodes : Int} {bud : Int} {full : Bool} {At Ab A9 : Option Addr} {ct cb c9 q : Nat} {w w9 : World} (hO : w.ownsRow b 160 9 (.slice (some ⟨b, 0, none⟩) 1 1) 1 [LA, NA, RA, .slice At t.length ct, .slice Ab best.length cb, .int .i64 most, .int .i64 nodes, .int .i64 bud, .bool full]) (hT : w.ownsRow (b + 1) 2 1 (.slice At t.length ct) t.length (tV t)) (hS : w.ownsRow (b + 1) 2 1 (.slice Ab best.length cb) best.length (tV best)) (hap : ((Value.slice Ab best.length cb).ownBlock = none ∨ (Value.slice Ab best.length cb).ownBlock ≠ (Value.slice At t.length ct).ownBlock))
    (hown : w9.ownsRow (b + 1) 2 1 (.slice A9 (t.length + 1) c9) (t.length + 1) (tV t ++ [.int .i64 (k : Int)])) (hgr : ((w.alloc (.cells #[.int .i64 (k : Int)] 2)).drewN q).grownBy w9 (Value.slice At t.length ct).ownBlock) (hbk : (Value.slice A9 (t.length + 1) c9).ownBlock = (Value.slice At t.length ct).ownBlock ∨ (Value.slice A9 (t.length + 1) c9).ownBlock = some (w.heap.size + 1)) :
    (Below b w (w9.setCell ⟨b, 3, none⟩ (.slice A9 (t.length + 1) c9)) ∧ Kept b 3 M w (w9.setCell ⟨b, 3, none⟩ (.slice A9 (t.length + 1) c9)) ∧ GlrS b LA NA RA (t ++ [k]) best most nodes bud full (w9.setCell ⟨b, 3, none⟩ (.slice A9 (t.length + 1) c9))) ∧ w9.cell? ⟨b, 3, none⟩ = some (.slice At t.length ct) ∧ w9.frozen? ⟨b, 3, none⟩ = false := by
  have hbw := (hO.lt b rfl).2
  have hneb : (Value.slice (some ⟨b, 0, none⟩) 1 1).ownBlock ≠ (Value.slice At t.length ct).ownBlock := fun e => by
    have := (hT.lt b e.symm).1
    omega
  have O9 := World.ownsRow.kept (w := (w.alloc (.cells #[.int .i64 (k : Int)] 2)).drewN q) (hO.alloc (.cells #[.int .i64 (k : Int)] 2)) hgr (.inr hneb)
  have S9 := World.ownsRow.kept (w := (w.alloc (.cells #[.int .i64 (k : Int)] 2)).drewN q) (hS.alloc (.cells #[.int .i64 (k : Int)] 2)) hgr hap
  have e : (t ++ [k]).length = t.length + 1 := by simp
  have N9 : w9.ownsRow (b + 1) 2 1 (.slice A9 (t.length + 1) c9) (t.length + 1) (tV (t ++ [k])) := by rw [tV_app]; exact hown
  have hsz9 : ((w.alloc (.cells #[.int .i64 (k : Int)] 2)).drewN q).heap.size = w.heap.size + 1 := by show (w.alloc _).heap.size = _; simp
  have BA : Below b w ((w.alloc (.cells #[.int .i64 (k : Int)] 2)).drewN q) := below_drewN' ((Below.refl b w).alloc (Nat.le_of_lt hbw) (.cells #[.int .i64 (k : Int)] 2)) q
  have B9 : Below b w w9 := BA.grown hgr (by rw [hsz9]; omega) (fun g hg => Nat.le_of_succ_le (hT.lt g hg).1)
  refine ⟨⟨B9.setCell (p := ⟨b, 3, none⟩) (Nat.le_refl _) _, ?_, ?_⟩, O9.cellAt 3 (by omega), O9.frozenAt 3⟩
  · exact kept_app (wr := (w.alloc (.cells #[.int .i64 (k : Int)] 2)).drewN q) (hO.cellAt 3 (by omega)) (fun g hg => heap_alloc_old w _ hg) (by rw [hsz9]; omega) hgr (by rw [hsz9]; exact hbk) (by rw [O9.cellAt 3 (by omega)]; rfl)
  · unfold GlrS
    rw [e]
    refine ⟨A9, c9, Ab, cb, own_setCells [.slice A9 (t.length + 1) c9] (p := 3) O9, own_apart N9 (by simp) _, own_apart S9 (by simp) _, ?_⟩
    rcases hbk with h | h
    · rw [h]; exact hap
    · cases hb : (Value.slice Ab best.length cb).ownBlock with
      | none => exact .inl rfl
      | some g2 =>
        refine .inr (fun e => ?_)
        have := (hS.lt g2 hb).2
        rw [h] at e
        injection e with e
        omega
/-- .. and given back -/
theorem GlrS.cut {b k : Nat} {LA : Value} {NA : Value} {RA : Value} {t : List Nat} {best : List Nat} {most : Int} {nodes : Int} {bud : Int} {full : Bool} {w : World} (h : GlrS b LA NA RA (t ++ [k]) best most nodes bud full w) :
    ∃ g c, ((t.length ≤ c ∧ ¬ c = 0) ∧ c ≤ 9223372036854775807) ∧ w.cell? ⟨b, 3, none⟩ = some (.slice (some ⟨g, 0, none⟩) (t.length + 1) c) ∧ w.frozen? ⟨b, 3, none⟩ = false ∧
      GlrS b LA NA RA t best most nodes bud full (w.setCell ⟨b, 3, none⟩ (.slice (some ⟨g, 0, none⟩) t.length c)) ∧ Kept b 3 M w (w.setCell ⟨b, 3, none⟩ (.slice (some ⟨g, 0, none⟩) t.length c)) ∧ Below b w (w.setCell ⟨b, 3, none⟩ (.slice (some ⟨g, 0, none⟩) t.length c)) := by
  obtain ⟨At, ct, Ab, cb, hO, hT, hS, hap⟩ := h
  obtain ⟨g, cg, hv, -, -, -⟩ := own_form hT (by simp)
  injection hv with a1 a2 a3
  subst a1 a3
  have hcp := own_capP hT
  have e : (t ++ [k]).length = t.length + 1 := by simp
  rw [e] at hO hT hcp hap
  have h1 := own_shrink' hT (show t.length ≤ t.length + 1 by omega)
  rw [tV_app, List.take_left' (by rw [tV_len]; omega)] at h1
  have hc := hO.cellAt 3 (by omega)
  exact ⟨g, ct, ⟨⟨by omega, by omega⟩, by omega⟩, hc, hO.frozenAt 3, ⟨some ⟨g, 0, none⟩, ct, Ab, cb, own_setCells [.slice (some ⟨g, 0, none⟩) t.length ct] (p := 3) hO, own_apart h1 (by simp) _, own_apart hS (by simp) _, hap⟩, Kept.store2 hc rfl, (Below.refl b w).setCell (p := ⟨b, 3, none⟩) (Nat.le_refl _) _⟩
end
theorem GluS.low {b : Nat} {LA : Value} {NA : Value} {RA : Value} {left : Int} {t : List Nat} {sum : Int} {best : List Nat} {most : Int} {found : Bool} {w : World} (h : GluS b LA NA RA left t sum best most found w) {p : Addr} (hp : p.block < b) (v : Value) : GluS b LA NA RA left t sum best most found (w.setCell p v) := by
  obtain ⟨At, ct, Ab, cb, ho, htk, hbs, hap⟩ := h
  exact ⟨At, ct, Ab, cb, own_apart ho hp v, own_apart htk (by omega) v, own_apart hbs (by omega) v, hap⟩
theorem GlrS.low {b : Nat} {LA : Value} {NA : Value} {RA : Value} {t : List Nat} {best : List Nat} {most : Int} {nodes : Int} {bud : Int} {full : Bool} {w : World} (h : GlrS b LA NA RA t best most nodes bud full w) {p : Addr} (hp : p.block < b) (v : Value) : GlrS b LA NA RA t best most nodes bud full (w.setCell p v) := by
  obtain ⟨At, ct, Ab, cb, ho, htk, hbs, hap⟩ := h
  exact ⟨At, ct, Ab, cb, own_apart ho hp v, own_apart htk (by omega) v, own_apart hbs (by omega) v, hap⟩

section
variable {M : Nat → Prop} {b : Nat} {LA NA RA : Value} {left sum most : Int} {found : Bool} {t best : List Nat}
theorem GluS.setSum {W : World} (h : GluS b LA NA RA left t sum best most found W) (v : Int) : (Below b W (W.setCell ⟨b, 5, none⟩ (.int .i64 v)) ∧ Kept b 4 M W (W.setCell ⟨b, 5, none⟩ (.int .i64 v))) ∧ GluS b LA NA RA left t v best most found (W.setCell ⟨b, 5, none⟩ (.int .i64 v)) := by
  obtain ⟨At, ct, Ab, cb, ho, htk, hbs, hap⟩ := h
  exact ⟨⟨(Below.refl b W).setCell (p := ⟨b, 5, none⟩) (Nat.le_refl _) _, Kept.store (by decide)⟩, At, ct, Ab, cb, own_setCells [.int .i64 v] (p := 5) ho, own_apart htk (by simp) _, own_apart hbs (by simp) _, hap⟩
theorem GluS.setLeft {W : World} (h : GluS b LA NA RA left t sum best most found W) (v : Int) : (Below b W (W.setCell ⟨b, 3, none⟩ (.int .i64 v)) ∧ Kept b 4 M W (W.setCell ⟨b, 3, none⟩ (.int .i64 v))) ∧ GluS b LA NA RA v t sum best most found (W.setCell ⟨b, 3, none⟩ (.int .i64 v)) := by
  obtain ⟨At, ct, Ab, cb, ho, htk, hbs, hap⟩ := h
  exact ⟨⟨(Below.refl b W).setCell (p := ⟨b, 3, none⟩) (Nat.le_refl _) _, Kept.store (by decide)⟩, At, ct, Ab, cb, own_setCells [.int .i64 v] (p := 3) ho, own_apart htk (by simp) _, own_apart hbs (by simp) _, hap⟩
theorem glu_best {At Ab A3 : Option Addr} {ct cb c3 : Nat} {s : Int} {W w3 : World} (hO : W.ownsRow b 166 9 (.slice (some ⟨b, 0, none⟩) 1 1) 1 [LA, NA, RA, .int .i64 left, .slice At t.length ct, .int .i64 s, .slice Ab best.length cb, .int .i64 most, .bool found]) (hT : W.ownsRow (b + 1) 2 1 (.slice At t.length ct) t.length (tV t)) (h3 : w3.ownsRow W.heap.size 2 1 (.slice A3 t.length c3) t.length (tV t)) (hb3 : Below W.heap.size W w3) :
    (GluS b LA NA RA left t s t s true (((w3.setCell ⟨b, 6, none⟩ (.slice A3 t.length c3)).setCell ⟨b, 7, none⟩ (.int .i64 s)).setCell ⟨b, 8, none⟩ (.bool true)) ∧ Below b W (((w3.setCell ⟨b, 6, none⟩ (.slice A3 t.length c3)).setCell ⟨b, 7, none⟩ (.int .i64 s)).setCell ⟨b, 8, none⟩ (.bool true))) ∧ Kept b 4 M W (((w3.setCell ⟨b, 6, none⟩ (.slice A3 t.length c3)).setCell ⟨b, 7, none⟩ (.int .i64 s)).setCell ⟨b, 8, none⟩ (.bool true)) := by
  have hlt := (hO.lt b rfl).2
  have h3' := own_mono h3 (show b + 1 ≤ W.heap.size by omega)
  refine ⟨⟨⟨At, ct, A3, c3, own_setCells [.bool true] (p := 8) (own_setCells [.int .i64 s] (p := 7) (own_setCells [.slice A3 t.length c3] (p := 6) (own_below hO hb3))), own_apart (own_apart (own_apart (own_below hT hb3) (by simp) _) (by simp) _) (by simp) _, own_apart (own_apart (own_apart h3' (by simp) _) (by simp) _) (by simp) _, apart_new hT h3⟩, ?_⟩, ?_⟩
  · exact (((hb3.mono (Nat.le_of_lt hlt)).setCell (p := ⟨b, 6, none⟩) (Nat.le_refl _) _).setCell (p := ⟨b, 7, none⟩) (Nat.le_refl _) _).setCell (p := ⟨b, 8, none⟩) (Nat.le_refl _) _
  · exact (((Kept.of_below hlt hb3).trans (Kept.store (by decide))).trans (Kept.store (by decide))).trans (Kept.store (by decide))
/-- one way more taken: the row has grown, the struct's cells are stored behind another call -/
theorem glu_took {k pb : Nat} {At Ab A9 : Option Addr} {ct cb c9 : Nat} {s : Int} {ps : List Value} {W w9 : World} (hO : W.ownsRow b 166 9 (.slice (some ⟨b, 0, none⟩) 1 1) 1 [LA, NA, RA, .int .i64 left, .slice At t.length ct, .int .i64 s, .slice Ab best.length cb, .int .i64 most, .bool found]) (hT : W.ownsRow (b + 1) 2 1 (.slice At t.length ct) t.length (tV t)) (hS : W.ownsRow (b + 1) 2 1 (.slice Ab best.length cb) best.length (tV best)) (hap : (Value.slice Ab best.length cb).ownBlock = none ∨ (Value.slice Ab best.length cb).ownBlock ≠ (Value.slice At t.length ct).ownBlock)
    (hpb : b < pb) (hpl : pb < W.heap.size) (hxb : blkAt b 4 W ≠ some pb) (hX : ∀ (i : Nat) (v : Value), ps[i]? = some v → W.cell? ⟨pb, i, none⟩ = some v)
    (hown : w9.ownsRow (b + 1) 2 1 (.slice A9 (t.length + 1) c9) (t.length + 1) (tV t ++ [.int .i64 (k : Int)])) (hgr : (W.alloc (.cells #[.int .i64 (k : Int)] 2)).grownBy w9 (Value.slice At t.length ct).ownBlock) (hbk : (Value.slice A9 (t.length + 1) c9).ownBlock = (Value.slice At t.length ct).ownBlock ∨ (Value.slice A9 (t.length + 1) c9).ownBlock = some (W.heap.size + 1)) :
    w9.ownsRow b 166 9 (.slice (some ⟨b, 0, none⟩) 1 1) 1 [LA, NA, RA, .int .i64 left, .slice At t.length ct, .int .i64 s, .slice Ab best.length cb, .int .i64 most, .bool found] ∧ (∀ (i : Nat) (v : Value), ps[i]? = some v → w9.cell? ⟨pb, i, none⟩ = some v) ∧ pb < w9.heap.size ∧
      ∀ (w10 : World) (s2 : Int), Below w9.heap.size w9 w10 → ((Below b W ((w10.setCell ⟨b, 4, none⟩ (.slice A9 (t.length + 1) c9)).setCell ⟨b, 5, none⟩ (.int .i64 s2)) ∧ Kept b 4 M W ((w10.setCell ⟨b, 4, none⟩ (.slice A9 (t.length + 1) c9)).setCell ⟨b, 5, none⟩ (.int .i64 s2))) ∧ GluS b LA NA RA left (t ++ [k]) s2 best most found ((w10.setCell ⟨b, 4, none⟩ (.slice A9 (t.length + 1) c9)).setCell ⟨b, 5, none⟩ (.int .i64 s2))) := by
  have hbw := (hO.lt b rfl).2
  have hneb : (Value.slice (some ⟨b, 0, none⟩) 1 1).ownBlock ≠ (Value.slice At t.length ct).ownBlock := fun e => by
    have := (hT.lt b e.symm).1
    omega
  have O9 := World.ownsRow.kept (w := W.alloc (.cells #[.int .i64 (k : Int)] 2)) (hO.alloc (.cells #[.int .i64 (k : Int)] 2)) hgr (.inr hneb)
  have S9 := World.ownsRow.kept (w := W.alloc (.cells #[.int .i64 (k : Int)] 2)) (hS.alloc (.cells #[.int .i64 (k : Int)] 2)) hgr hap
  have e : (t ++ [k]).length = t.length + 1 := by simp
  have N9 : w9.ownsRow (b + 1) 2 1 (.slice A9 (t.length + 1) c9) (t.length + 1) (tV (t ++ [k])) := by rw [tV_app]; exact hown
  have hszA : (W.alloc (.cells #[.int .i64 (k : Int)] 2)).heap.size = W.heap.size + 1 := by simp
  have hsz9 := hgr.size
  rw [hszA] at hsz9
  have BA : Below b W (W.alloc (.cells #[.int .i64 (k : Int)] 2)) := (Below.refl b W).alloc (Nat.le_of_lt hbw) (.cells #[.int .i64 (k : Int)] 2)
  have B9 : Below b W w9 := BA.grown hgr (by rw [hszA]; omega) (fun g hg => Nat.le_of_succ_le (hT.lt g hg).1)
  have c4 := hO.cellAt 4 (by omega)
  simp only [List.getElem?_cons_zero, List.getElem?_cons_succ] at c4
  have hs : ∀ g, g < W.heap.size → blkAt b 4 W ≠ some g → w9.heap[g]? = W.heap[g]? := fun g hg ht => by
    rw [blkAt_of c4] at ht
    exact (hgr.block g (by omega) (fun e => ht e.symm)).trans (heap_alloc_old W _ hg)
  refine ⟨O9, fun i v h => (World.cell?_of_block (a := ⟨pb, i, none⟩) (hs pb hpl hxb)).trans (hX i v h), by omega, fun w10 s2 hb10 => ?_⟩
  have hG : GluS b LA NA RA left (t ++ [k]) s best most found (w10.setCell ⟨b, 4, none⟩ (.slice A9 (t.length + 1) c9)) := by
    unfold GluS
    rw [e]
    refine ⟨A9, c9, Ab, cb, own_setCells [.slice A9 (t.length + 1) c9] (p := 4) (own_below O9 hb10), own_apart (own_below N9 hb10) (by simp) _, own_apart (own_below S9 hb10) (by simp) _, ?_⟩
    rcases hbk with h | h
    · rw [h]; exact hap
    · cases hb : (Value.slice Ab best.length cb).ownBlock with
      | none => exact .inl rfl
      | some g2 =>
        refine .inr (fun e => ?_)
        have := (hS.lt g2 hb).2
        rw [h] at e
        injection e with e
        omega
  have hK : Kept b 4 M W (w10.setCell ⟨b, 4, none⟩ (.slice A9 (t.length + 1) c9)) := by
    refine ⟨by have := hb10.size; simp; omega, fun g hg hb _ ht => (heap_setCell_other _ _ g _ hb).trans ((hb10.block g (by omega)).trans (hs g hg ht)), ?_⟩
    have hu : (w10.cell? ⟨b, 4, none⟩).isSome = true := by rw [(own_below O9 hb10).cellAt 4 (by omega)]; rfl
    rw [blkAt_of (World.cell?_setCell_same' w10 _ _ hu), blkAt_of c4]
    rcases hbk with h | h
    · exact .inl h
    · exact .inr ⟨_, h, by omega⟩
  have hB : Below b W (w10.setCell ⟨b, 4, none⟩ (.slice A9 (t.length + 1) c9)) := (B9.trans (hb10.mono (by omega))).setCell (p := ⟨b, 4, none⟩) (Nat.le_refl _) _
  obtain ⟨⟨g1, g2⟩, g3⟩ := hG.setSum (M := M) s2
  exact ⟨⟨hB.trans g1, hK.trans g2⟩, g3⟩
/-- .. and given back, behind another call -/
theorem glu_back {k g6 c6 : Nat} {W w10 : World} (h : GluS b LA NA RA left (t ++ [k]) sum best most found W) (he : W.cell? ⟨b, 4, none⟩ = some (.slice (some ⟨g6, 0, none⟩) (t.length + 1) c6)) (hb10 : Below W.heap.size W w10) (s2 : Int) :
    w10.cell? ⟨b, 4, none⟩ = some (.slice (some ⟨g6, 0, none⟩) (t.length + 1) c6) ∧ w10.cell? ⟨b, 5, none⟩ = some (.int .i64 sum) ∧ w10.frozen? ⟨b, 4, none⟩ = false ∧ w10.frozen? ⟨b, 5, none⟩ = false ∧
      ((Below b W ((w10.setCell ⟨b, 4, none⟩ (.slice (some ⟨g6, 0, none⟩) t.length c6)).setCell ⟨b, 5, none⟩ (.int .i64 s2)) ∧ Kept b 4 M W ((w10.setCell ⟨b, 4, none⟩ (.slice (some ⟨g6, 0, none⟩) t.length c6)).setCell ⟨b, 5, none⟩ (.int .i64 s2))) ∧ GluS b LA NA RA left t s2 best most found ((w10.setCell ⟨b, 4, none⟩ (.slice (some ⟨g6, 0, none⟩) t.length c6)).setCell ⟨b, 5, none⟩ (.int .i64 s2))) := by
  have hbw := h.lt
  have h10 := h.below hb10
  have he10 := (hb10.cell (p := ⟨b, 4, none⟩) hbw).trans he
  obtain ⟨g, c, -, e4, i4, hst, hk, hbl⟩ := h10.cut (M := M)
  rw [he10] at e4
  injection e4 with e4
  injection e4 with e1 e2 e3
  injection e1 with e1
  injection e1 with e1
  subst e1 e3
  obtain ⟨At, ct, Ab, cb, ho, -, -, -⟩ := h10
  have c5 := ho.cellAt 5 (by omega)
  simp only [List.getElem?_cons_zero, List.getElem?_cons_succ] at c5
  obtain ⟨⟨g1, g2⟩, g3⟩ := hst.setSum (M := M) s2
  exact ⟨he10, c5, i4, ho.frozenAt 5, ⟨⟨((hb10.mono (Nat.le_of_lt hbw)).trans hbl).trans g1, ((Kept.of_below hbw hb10).trans hk).trans g2⟩, g3⟩⟩
end
section
variable {P : Program} {wr w0 : World}
/-- append, as one step of a region that draws; the new elements lie in the block that was just made -/
theorem step_appG {ops : Array Oper} {o : Oper} {a : Act} {K : Act → World → Prop} {Q : Exit → Act → World → Prop} {E : Prop} (hgd : o.guard = none) (s x : Operand) (t : TypeId)
    (ho : o.op = .call { callee := .builtin .append, args := #[s, x], argTypes := #[t, t] })
    (B : Nat) (e : TypeId) (z : Value) (size bytes : Nat) (ht : P.underlying t = some (.slice e)) (hinfo : (P.info? e).map (fun i => (i.zero, i.size, i.bytes)) = some (some z, size, bytes)) (hzs : z.cells.size = size) (hsz : 0 < size)
    (v : Value) (n : Nat) (xs : List Value) (hs : a.eval s = v) (hown : wr.ownsRow B e size v n xs)
    (cs : Array Value) (m c : Nat) (hx : a.eval x = .slice (some ⟨wr.heap.size, 0, none⟩) m c) (hl : cs.size = m * size) (h1 : ∀ u ∈ cs.toList, u.oneCell' = true)
    (hbytes : (n + m) * (bytes + 1) ≤ 140737488355328) (hbase : B ≤ wr.heap.size)
    (h : ∀ v' w', w'.ownsRow B e size v' (n + m) (xs ++ cs.toList) → (wr.alloc (.cells cs e)).grownBy w' v.ownBlock → (v'.ownBlock = v.ownBlock ∨ v'.ownBlock = some (wr.heap.size + 1)) → K (a.put o.dst v') w') :
    if Region.wanted o (yielded ops a.tmps) = true then Oper.wp P o a (wr.alloc (.cells cs e)) K Q else E := by
  have hw : Region.wanted o (yielded ops a.tmps) = true := by simp [Region.wanted, hgd]
  rw [if_pos hw]
  obtain ⟨i0, hi, hz0, hz1, hz2⟩ := info_parts hinfo
  have hnm : n + m ≤ (n + m) * (bytes + 1) := Nat.le_mul_of_pos_right _ (by omega)
  have hb2 : (n + m) * bytes ≤ (n + m) * (bytes + 1) := Nat.mul_le_mul_left _ (by omega)
  obtain ⟨v', w', hr, h2, h3, h4, h5⟩ := run_append_own_at (P := P) (w := wr.alloc (.cells cs e)) B t o.type e i0 z size bytes ht hi hz0 hz1 hz2 hzs hsz v n xs (hown.alloc _) ⟨wr.heap.size, 0, none⟩ m c cs.toList (by simpa using hl) (World.news_of_block (heap_alloc_new wr _)) h1 (by unfold maxLen; omega) (by omega) (by simp; omega)
  unfold Oper.wp execOp
  simp only [ho, resolve, invoke, builtin, Sem.run_bind, Sem.run_pure, Result.andThen_ok, List.map_toArray, List.map_cons, List.map_nil, hs, hx, hr]
  exact h v' w' h2 h3 (h5.imp id (fun e => by rw [e]; simp))
end

theorem gcloneT_ok (A : Option Addr) (c : Nat) (t : List Nat) (w : World) {B : Nat} (hT : w.ownsRow B 2 1 (.slice A t.length c) t.length (tV t)) (hn : t.length ≤ 1048576) :
    Calls Try.prog 137 #[.slice A t.length c] w fun e w' => ∃ A' c', e = .returned (.slice A' t.length c') ∧ w'.ownsRow w.heap.size 2 1 (.slice A' t.length c') t.length (tV t) ∧ Below w.heap.size w w' := by
  have h := cloneInt_ok A c (t.map Int.ofNat) w (ints_own hT) (by simpa using hn) (own_nil0 hT)
  rw [List.length_map] at h
  refine h.mono ?_
  rintro e w' ⟨A', c', rfl, ho, _, hb⟩
  rw [List.length_map] at ho
  exact ⟨A', c', by rw [List.length_map], ho, hb⟩
/-- what is left in the pots -/
def RestAt (r cr : Nat) (rest : List Int) (w : World) : Prop := w.ownsRow r 2 1 (.slice (some ⟨r, 0, none⟩) rest.length cr) rest.length (iV0 rest)
theorem RestAt.under {r cr b : Nat} {rest : List Int} {w w' : World} (h : RestAt r cr rest w) (hb : Below b w w') (hr : r < b) : RestAt r cr rest w' := by
  refine ⟨h.1, ?_⟩
  rcases h.2 with ⟨h0, _⟩ | ⟨g', cap, cur, he, h1, h2, h3⟩
  · cases h0
  · injection he with e1 e2 e3
    injection e1 with e1
    injection e1 with e1
    subst e1
    exact .inr ⟨r, cap, cur, by rw [e3], h1, by rw [hb.block r hr]; exact h2, h3⟩
theorem RestAt.cell {r cr k : Nat} {rest : List Int} {w : World} (h : RestAt r cr rest w) (hk : k < rest.length) : w.cell? ⟨r, k, none⟩ = some (.int .i64 rest[k]) ∧ w.frozen? ⟨r, k, none⟩ = false := by
  refine ⟨?_, World.ownsRow.frozenAt h k⟩
  rw [World.ownsRow.cellAt h k (by omega), iV0, List.getElem?_map, List.getElem?_eq_getElem hk]
  rfl
theorem RestAt.set {r cr k : Nat} {rest : List Int} {w : World} (h : RestAt r cr rest w) (v : Int) : RestAt r cr (rest.set k v) (w.setCell ⟨r, k, none⟩ (.int .i64 v)) := by
  have h1 := own_setCells [.int .i64 v] (p := k) h
  have e : iV0 (rest.set k v) = setSeg (iV0 rest) k [.int .i64 v] := by unfold iV0; rw [List.map_set]; rfl
  unfold RestAt
  rw [List.length_set, e]
  exact h1
theorem RestAt.lt {r cr : Nat} {rest : List Int} {w : World} (h : RestAt r cr rest w) : r < w.heap.size := (World.ownsRow.lt h r rfl).2
def RestOk (rest : List Int) : Prop := ∀ v ∈ rest, 0 ≤ v ∧ v ≤ 20000
theorem RestOk.set {rest : List Int} {k : Nat} {v : Int} (h : RestOk rest) (hv : 0 ≤ v ∧ v ≤ 20000) : RestOk (rest.set k v) := fun f hf => by
  rcases List.mem_or_eq_of_mem_set hf with h1 | h1
  · exact h _ h1
  · rw [h1]; exact hv
theorem rest_back {rest : List Int} {k : Nat} {v : Int} (hk : k < rest.length) : (rest.set k v).set k rest[k] = rest := by
  rw [List.set_set]
  exact List.set_getElem_self hk
theorem RestOk.full {xs : List DPot} (h : ∀ x ∈ xs, potD0 x) : RestOk (fullL xs) := fun v hv => by
  unfold fullL at hv
  obtain ⟨x, hx, rfl⟩ := List.mem_map.1 hv
  obtain ⟨h1, h2, -⟩ := h x hx
  omega
def mostF (m : Int) : Int := if m < 0 then 0 else m
theorem mostF_of {m : Int} (h : 0 ≤ m) : mostF m = m := by unfold mostF; rw [if_neg (by omega)]
/-- a call's answer -/
def GPost (b r cr : Nat) (w0 w : World) (LA NA RA : Value) (rr : Option WS) (rest : List Int) (t : List Nat) (s : Int) (e : Ending) (w' : World) : Prop :=
  (Below w0.heap.size w0 w' ∧ Kept b 4 (fun g => g = r) w w') ∧ RestAt r cr rest w' ∧ match rr with
  | none => e = .returned (.bool false) ∧ ∃ left best most found, GluS b LA NA RA left t s best most found w'
  | some S => e = .returned (.bool true) ∧ S.left ≤ 20000 ∧ GluS b LA NA RA (S.left : Int) t s S.best (mostF S.most) (decide (0 ≤ S.most)) w'
def HPost (b r cr : Nat) (w0 : World) (LA NA RA : Value) (bud : Int) (rr : Option WS) (rest : List Int) (t : List Nat) (e : Ending) (w' : World) : Prop :=
  (Below w0.heap.size w0 w' ∧ e = .returned (.tuple #[])) ∧ RestAt r cr rest w' ∧ match rr with
  | none => ∃ best most nodes, GlrS b LA NA RA t best most nodes bud true w'
  | some S => (S.left : Int) ≤ bud ∧ GlrS b LA NA RA t S.best S.most (bud - S.left) bud false w'

/-- an answer, whichever: what lies in memory -/
theorem GPost.open {b r cr : Nat} {w0 w : World} {LA NA RA : Value} {rr : Option WS} {rest : List Int} {t : List Nat} {s : Int} {e : Ending} {w' : World} (h : GPost b r cr w0 w LA NA RA rr rest t s e w') :
    ∃ (ok : Bool) (left : Int) (best : List Nat) (most : Int) (found : Bool), e = .returned (.bool ok) ∧ (Below w0.heap.size w0 w' ∧ Kept b 4 (fun g => g = r) w w') ∧ RestAt r cr rest w' ∧ GluS b LA NA RA left t s best most found w' ∧ ((ok = false ∧ rr = none) ∨ (ok = true ∧ ∃ S, rr = some S ∧ S.left ≤ 20000 ∧ left = (S.left : Int) ∧ best = S.best ∧ most = mostF S.most ∧ found = decide (0 ≤ S.most))) := by
  obtain ⟨h1, h2, h3⟩ := h
  cases rr with
  | none =>
    obtain ⟨rfl, left, best, most, found, hg⟩ := h3
    exact ⟨false, left, best, most, found, rfl, h1, h2, hg, .inl ⟨rfl, rfl⟩⟩
  | some S =>
    obtain ⟨rfl, hl, hg⟩ := h3
    exact ⟨true, _, _, _, _, rfl, h1, h2, hg, .inr ⟨rfl, S, rfl, hl, rfl, rfl, rfl, rfl⟩⟩

end Go.Proofs.Ytdbjbkdcmhekfaa
