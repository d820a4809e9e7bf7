/- BestCoats: the states of the program's and of the reference's search. -/
import Derived.Test.YtdbjbkdcmhekfaaSrchK
import Derived.Test.YtdbjbkdcmhekfaaCoaG
import Derived.Test.YtdbjbkdcmhekfaaCloneI
import Derived.Test.YtdbjbkdcmhekfaaApp2
namespace Go.Proofs.Ytdbjbkdcmhekfaa
open Go.RowKit
set_option linter.unusedVariables false

def CoaAt (b : Nat) (LA : Value) (GA : Value) (mo : Int) (left : Int) (t : List Nat) (best : List Nat) (least : Int) (found : Bool) (w : World) : Prop :=
  ∃ (At : Option Addr) (ct : Nat) (Ab : Option Addr) (cb : Nat), w.ownsRow b 151 8 (.slice (some ⟨b, 0, none⟩) 1 1) 1 [LA, GA, .int .i64 mo, .int .i64 left, .slice At t.length ct, .slice Ab best.length cb, .int .i64 least, .bool found] ∧ w.ownsRow (b + 1) 2 1 (.slice At t.length ct) t.length (tV t) ∧ w.ownsRow (b + 1) 2 1 (.slice Ab best.length cb) best.length (tV best) ∧ ((Value.slice Ab best.length cb).ownBlock = none ∨ (Value.slice Ab best.length cb).ownBlock ≠ (Value.slice At t.length ct).ownBlock)
theorem CoaAt.below {b : Nat} {LA : Value} {GA : Value} {mo : Int} {left : Int} {t : List Nat} {best : List Nat} {least : Int} {found : Bool} {w w' : World} (h : CoaAt b LA GA mo left t best least found w) (hb : Below w.heap.size w w') : CoaAt b LA GA mo left t best least found w' := by
  obtain ⟨At, ct, Ab, cb, ho, htk, hbs, hap⟩ := h
  exact ⟨At, ct, Ab, cb, own_below ho hb, own_below htk hb, own_below hbs hb, hap⟩
theorem CoaAt.lt {b : Nat} {LA : Value} {GA : Value} {mo : Int} {left : Int} {t : List Nat} {best : List Nat} {least : Int} {found : Bool} {w : World} (h : CoaAt b LA GA mo left t best least found w) : b < w.heap.size := by
  obtain ⟨At, ct, Ab, cb, ho, htk, hbs, hap⟩ := h
  exact (ho.lt b rfl).2
theorem CoaAt.drewN {b : Nat} {LA : Value} {GA : Value} {mo : Int} {left : Int} {t : List Nat} {best : List Nat} {least : Int} {found : Bool} {w : World} (h : CoaAt b LA GA mo left t best least found w) (n : Nat) : CoaAt b LA GA mo left t best least found (w.drewN n) := h
theorem CoaAt.drew {b : Nat} {LA : Value} {GA : Value} {mo : Int} {left : Int} {t : List Nat} {best : List Nat} {least : Int} {found : Bool} {w : World} (h : CoaAt b LA GA mo left t best least found w) : CoaAt b LA GA mo left t best least found w.drew := h
/-- one way more -/
theorem CoaAt.take {b k : Nat} {LA : Value} {GA : Value} {mo : Int} {left : Int} {t : List Nat} {best : List Nat} {least : Int} {found : Bool} {At Ab A9 : Option Addr} {ct cb c9 q : Nat} {w w9 : World} (hO : w.ownsRow b 151 8 (.slice (some ⟨b, 0, none⟩) 1 1) 1 [LA, GA, .int .i64 mo, .int .i64 left, .slice At t.length ct, .slice Ab best.length cb, .int .i64 least, .bool found]) (hT : w.ownsRow (b + 1) 2 1 (.slice At t.length ct) t.length (tV t)) (hS : w.ownsRow (b + 1) 2 1 (.slice Ab best.length cb) best.length (tV best)) (hap : ((Value.slice Ab best.length cb).ownBlock = none ∨ (Value.slice Ab best.length cb).ownBlock ≠ (Value.slice At t.length ct).ownBlock))
    (hown : w9.ownsRow (b + 1) 2 1 (.slice A9 (t.length + 1) c9) (t.length + 1) (tV t ++ [.int .i64 (k : Int)])) (hgr : ((w.alloc (.cells #[.int .i64 (k : Int)] 2)).drewN q).grownBy w9 (Value.slice At t.length ct).ownBlock) (hbk : (Value.slice A9 (t.length + 1) c9).ownBlock = (Value.slice At t.length ct).ownBlock ∨ (Value.slice A9 (t.length + 1) c9).ownBlock = some (w.heap.size + 1)) :
    (Below b w (w9.setCell ⟨b, 4, none⟩ (.slice A9 (t.length + 1) c9)) ∧ Kept b 4 (fun _ => False) w (w9.setCell ⟨b, 4, none⟩ (.slice A9 (t.length + 1) c9)) ∧ CoaAt b LA GA mo left (t ++ [k]) best least found (w9.setCell ⟨b, 4, none⟩ (.slice A9 (t.length + 1) c9))) ∧ w9.cell? ⟨b, 4, none⟩ = some (.slice At t.length ct) ∧ w9.frozen? ⟨b, 4, none⟩ = false := by
  have hbw := (hO.lt b rfl).2
  have hneb : (Value.slice (some ⟨b, 0, none⟩) 1 1).ownBlock ≠ (Value.slice At t.length ct).ownBlock := fun e => by
    have := (hT.lt b e.symm).1
    omega
  have O9 := World.ownsRow.kept (w := (w.alloc (.cells #[.int .i64 (k : Int)] 2)).drewN q) (hO.alloc (.cells #[.int .i64 (k : Int)] 2)) hgr (.inr hneb)
  have S9 := World.ownsRow.kept (w := (w.alloc (.cells #[.int .i64 (k : Int)] 2)).drewN q) (hS.alloc (.cells #[.int .i64 (k : Int)] 2)) hgr hap
  have e : (t ++ [k]).length = t.length + 1 := by simp
  have N9 : w9.ownsRow (b + 1) 2 1 (.slice A9 (t.length + 1) c9) (t.length + 1) (tV (t ++ [k])) := by rw [tV_app]; exact hown
  have hsz9 : ((w.alloc (.cells #[.int .i64 (k : Int)] 2)).drewN q).heap.size = w.heap.size + 1 := by show (w.alloc _).heap.size = _; simp
  have BA : Below b w ((w.alloc (.cells #[.int .i64 (k : Int)] 2)).drewN q) := below_drewN' ((Below.refl b w).alloc (Nat.le_of_lt hbw) (.cells #[.int .i64 (k : Int)] 2)) q
  have B9 : Below b w w9 := BA.grown hgr (by rw [hsz9]; omega) (fun g hg => Nat.le_of_succ_le (hT.lt g hg).1)
  refine ⟨⟨B9.setCell (p := ⟨b, 4, none⟩) (Nat.le_refl _) _, ?_, ?_⟩, O9.cellAt 4 (by omega), O9.frozenAt 4⟩
  · exact kept_app (wr := (w.alloc (.cells #[.int .i64 (k : Int)] 2)).drewN q) (hO.cellAt 4 (by omega)) (fun g hg => heap_alloc_old w _ hg) (by rw [hsz9]; omega) hgr (by rw [hsz9]; exact hbk) (by rw [O9.cellAt 4 (by omega)]; rfl)
  · unfold CoaAt
    rw [e]
    refine ⟨A9, c9, Ab, cb, own_setCells [.slice A9 (t.length + 1) c9] (p := 4) O9, own_apart N9 (by simp) _, own_apart S9 (by simp) _, ?_⟩
    rcases hbk with h | h
    · rw [h]; exact hap
    · cases hb : (Value.slice Ab best.length cb).ownBlock with
      | none => exact .inl rfl
      | some g2 =>
        refine .inr (fun e => ?_)
        have := (hS.lt g2 hb).2
        rw [h] at e
        injection e with e
        omega
/-- .. and given back -/
theorem CoaAt.cut {b k : Nat} {LA : Value} {GA : Value} {mo : Int} {left : Int} {t : List Nat} {best : List Nat} {least : Int} {found : Bool} {w : World} (h : CoaAt b LA GA mo left (t ++ [k]) best least found w) :
    ∃ g c, ((t.length ≤ c ∧ ¬ c = 0) ∧ c ≤ 9223372036854775807) ∧ w.cell? ⟨b, 4, none⟩ = some (.slice (some ⟨g, 0, none⟩) (t.length + 1) c) ∧ w.frozen? ⟨b, 4, none⟩ = false ∧
      CoaAt b LA GA mo left t best least found (w.setCell ⟨b, 4, none⟩ (.slice (some ⟨g, 0, none⟩) t.length c)) ∧ Kept b 4 (fun _ => False) w (w.setCell ⟨b, 4, none⟩ (.slice (some ⟨g, 0, none⟩) t.length c)) ∧ Below b w (w.setCell ⟨b, 4, none⟩ (.slice (some ⟨g, 0, none⟩) t.length c)) := by
  obtain ⟨At, ct, Ab, cb, hO, hT, hS, hap⟩ := h
  obtain ⟨g, cg, hv, -, -, -⟩ := own_form hT (by simp)
  injection hv with a1 a2 a3
  subst a1 a3
  have hcp := own_capP hT
  have e : (t ++ [k]).length = t.length + 1 := by simp
  rw [e] at hO hT hcp hap
  have h1 := own_shrink' hT (show t.length ≤ t.length + 1 by omega)
  rw [tV_app, List.take_left' (by rw [tV_len]; omega)] at h1
  have hc := hO.cellAt 4 (by omega)
  exact ⟨g, ct, ⟨⟨by omega, by omega⟩, by omega⟩, hc, hO.frozenAt 4, ⟨some ⟨g, 0, none⟩, ct, Ab, cb, own_setCells [.slice (some ⟨g, 0, none⟩) t.length ct] (p := 4) hO, own_apart h1 (by simp) _, own_apart hS (by simp) _, hap⟩, Kept.store2 hc rfl, (Below.refl b w).setCell (p := ⟨b, 4, none⟩) (Nat.le_refl _) _⟩
def RoaAt (b : Nat) (LA : Value) (GA : Value) (mo : Int) (t : List Nat) (best : List Nat) (least : Int) (nodes : Int) (bud : Int) (w : World) : Prop :=
  ∃ (At : Option Addr) (ct : Nat) (Ab : Option Addr) (cb : Nat), w.ownsRow b 146 8 (.slice (some ⟨b, 0, none⟩) 1 1) 1 [LA, GA, .int .i64 mo, .slice At t.length ct, .slice Ab best.length cb, .int .i64 least, .int .i64 nodes, .int .i64 bud] ∧ w.ownsRow (b + 1) 2 1 (.slice At t.length ct) t.length (tV t) ∧ w.ownsRow (b + 1) 2 1 (.slice Ab best.length cb) best.length (tV best) ∧ ((Value.slice Ab best.length cb).ownBlock = none ∨ (Value.slice Ab best.length cb).ownBlock ≠ (Value.slice At t.length ct).ownBlock)
theorem RoaAt.below {b : Nat} {LA : Value} {GA : Value} {mo : Int} {t : List Nat} {best : List Nat} {least : Int} {nodes : Int} {bud : Int} {w w' : World} (h : RoaAt b LA GA mo t best least nodes bud w) (hb : Below w.heap.size w w') : RoaAt b LA GA mo t best least nodes bud w' := by
  obtain ⟨At, ct, Ab, cb, ho, htk, hbs, hap⟩ := h
  exact ⟨At, ct, Ab, cb, own_below ho hb, own_below htk hb, own_below hbs hb, hap⟩
theorem RoaAt.lt {b : Nat} {LA : Value} {GA : Value} {mo : Int} {t : List Nat} {best : List Nat} {least : Int} {nodes : Int} {bud : Int} {w : World} (h : RoaAt b LA GA mo t best least nodes bud w) : b < w.heap.size := by
  obtain ⟨At, ct, Ab, cb, ho, htk, hbs, hap⟩ := h
  exact (ho.lt b rfl).2
theorem RoaAt.drewN {b : Nat} {LA : Value} {GA : Value} {mo : Int} {t : List Nat} {best : List Nat} {least : Int} {nodes : Int} {bud : Int} {w : World} (h : RoaAt b LA GA mo t best least nodes bud w) (n : Nat) : RoaAt b LA GA mo t best least nodes bud (w.drewN n) := h
theorem RoaAt.drew {b : Nat} {LA : Value} {GA : Value} {mo : Int} {t : List Nat} {best : List Nat} {least : Int} {nodes : Int} {bud : Int} {w : World} (h : RoaAt b LA GA mo t best least nodes bud w) : RoaAt b LA GA mo t best least nodes bud w.drew := h
/-- one way more -/
theorem RoaAt.take {b k : Nat} {LA : Value} {GA : Value} {mo : Int} {t : List Nat} {best : List Nat} {least : Int} {nodes : Int} {bud : Int} {At Ab A9 : Option Addr} {ct cb c9 q : Nat} {w w9 : World} (hO : w.ownsRow b 146 8 (.slice (some ⟨b, 0, none⟩) 1 1) 1 [LA, GA, .int .i64 mo, .slice At t.length ct, .slice Ab best.length cb, .int .i64 least, .int .i64 nodes, .int .i64 bud]) (hT : w.ownsRow (b + 1) 2 1 (.slice At t.length ct) t.length (tV t)) (hS : w.ownsRow (b + 1) 2 1 (.slice Ab best.length cb) best.length (tV best)) (hap : ((Value.slice Ab best.length cb).ownBlock = none ∨ (Value.slice Ab best.length cb).ownBlock ≠ (Value.slice At t.length ct).ownBlock))
    (hown : w9.ownsRow (b + 1) 2 1 (.slice A9 (t.length + 1) c9) (t.length + 1) (tV t ++ [.int .i64 (k : Int)])) (hgr : ((w.alloc (.cells #[.int .i64 (k : Int)] 2)).drewN q).grownBy w9 (Value.slice At t.length ct).ownBlock) (hbk : (Value.slice A9 (t.length + 1) c9).ownBlock = (Value.slice At t.length ct).ownBlock ∨ (Value.slice A9 (t.length + 1) c9).ownBlock = some (w.heap.size + 1)) :
    (Below b w (w9.setCell ⟨b, 3, none⟩ (.slice A9 (t.length + 1) c9)) ∧ Kept b 3 (fun _ => False) w (w9.setCell ⟨b, 3, none⟩ (.slice A9 (t.length + 1) c9)) ∧ RoaAt b LA GA mo (t ++ [k]) best least nodes bud (w9.setCell ⟨b, 3, none⟩ (.slice A9 (t.length + 1) c9))) ∧ w9.cell? ⟨b, 3, none⟩ = some (.slice At t.length ct) ∧ w9.frozen? ⟨b, 3, none⟩ = false := by
  have hbw := (hO.lt b rfl).2
  have hneb : (Value.slice (some ⟨b, 0, none⟩) 1 1).ownBlock ≠ (Value.slice At t.length ct).ownBlock := fun e => by
    have := (hT.lt b e.symm).1
    omega
  have O9 := World.ownsRow.kept (w := (w.alloc (.cells #[.int .i64 (k : Int)] 2)).drewN q) (hO.alloc (.cells #[.int .i64 (k : Int)] 2)) hgr (.inr hneb)
  have S9 := World.ownsRow.kept (w := (w.alloc (.cells #[.int .i64 (k : Int)] 2)).drewN q) (hS.alloc (.cells #[.int .i64 (k : Int)] 2)) hgr hap
  have e : (t ++ [k]).length = t.length + 1 := by simp
  have N9 : w9.ownsRow (b + 1) 2 1 (.slice A9 (t.length + 1) c9) (t.length + 1) (tV (t ++ [k])) := by rw [tV_app]; exact hown
  have hsz9 : ((w.alloc (.cells #[.int .i64 (k : Int)] 2)).drewN q).heap.size = w.heap.size + 1 := by show (w.alloc _).heap.size = _; simp
  have BA : Below b w ((w.alloc (.cells #[.int .i64 (k : Int)] 2)).drewN q) := below_drewN' ((Below.refl b w).alloc (Nat.le_of_lt hbw) (.cells #[.int .i64 (k : Int)] 2)) q
  have B9 : Below b w w9 := BA.grown hgr (by rw [hsz9]; omega) (fun g hg => Nat.le_of_succ_le (hT.lt g hg).1)
  refine ⟨⟨B9.setCell (p := ⟨b, 3, none⟩) (Nat.le_refl _) _, ?_, ?_⟩, O9.cellAt 3 (by omega), O9.frozenAt 3⟩
  · exact kept_app (wr := (w.alloc (.cells #[.int .i64 (k : Int)] 2)).drewN q) (hO.cellAt 3 (by omega)) (fun g hg => heap_alloc_old w _ hg) (by rw [hsz9]; omega) hgr (by rw [hsz9]; exact hbk) (by rw [O9.cellAt 3 (by omega)]; rfl)
  · unfold RoaAt
    rw [e]
    refine ⟨A9, c9, Ab, cb, own_setCells [.slice A9 (t.length + 1) c9] (p := 3) O9, own_apart N9 (by simp) _, own_apart S9 (by simp) _, ?_⟩
    rcases hbk with h | h
    · rw [h]; exact hap
    · cases hb : (Value.slice Ab best.length cb).ownBlock with
      | none => exact .inl rfl
      | some g2 =>
        refine .inr (fun e => ?_)
        have := (hS.lt g2 hb).2
        rw [h] at e
        injection e with e
        omega
/-- .. and given back -/
theorem RoaAt.cut {b k : Nat} {LA : Value} {GA : Value} {mo : Int} {t : List Nat} {best : List Nat} {least : Int} {nodes : Int} {bud : Int} {w : World} (h : RoaAt b LA GA mo (t ++ [k]) best least nodes bud w) :
    ∃ g c, ((t.length ≤ c ∧ ¬ c = 0) ∧ c ≤ 9223372036854775807) ∧ w.cell? ⟨b, 3, none⟩ = some (.slice (some ⟨g, 0, none⟩) (t.length + 1) c) ∧ w.frozen? ⟨b, 3, none⟩ = false ∧
      RoaAt b LA GA mo t best least nodes bud (w.setCell ⟨b, 3, none⟩ (.slice (some ⟨g, 0, none⟩) t.length c)) ∧ Kept b 3 (fun _ => False) w (w.setCell ⟨b, 3, none⟩ (.slice (some ⟨g, 0, none⟩) t.length c)) ∧ Below b w (w.setCell ⟨b, 3, none⟩ (.slice (some ⟨g, 0, none⟩) t.length c)) := by
  obtain ⟨At, ct, Ab, cb, hO, hT, hS, hap⟩ := h
  obtain ⟨g, cg, hv, -, -, -⟩ := own_form hT (by simp)
  injection hv with a1 a2 a3
  subst a1 a3
  have hcp := own_capP hT
  have e : (t ++ [k]).length = t.length + 1 := by simp
  rw [e] at hO hT hcp hap
  have h1 := own_shrink' hT (show t.length ≤ t.length + 1 by omega)
  rw [tV_app, List.take_left' (by rw [tV_len]; omega)] at h1
  have hc := hO.cellAt 3 (by omega)
  exact ⟨g, ct, ⟨⟨by omega, by omega⟩, by omega⟩, hc, hO.frozenAt 3, ⟨some ⟨g, 0, none⟩, ct, Ab, cb, own_setCells [.slice (some ⟨g, 0, none⟩) t.length ct] (p := 3) hO, own_apart h1 (by simp) _, own_apart hS (by simp) _, hap⟩, Kept.store2 hc rfl, (Below.refl b w).setCell (p := ⟨b, 3, none⟩) (Nat.le_refl _) _⟩

theorem cloneT_ok (A : Option Addr) (c : Nat) (t : List Nat) (w : World) {B : Nat} (hT : w.ownsRow B 2 1 (.slice A t.length c) t.length (tV t)) (hn : t.length ≤ 1048576) :
    Calls Try.prog 137 #[.slice A t.length c] w fun e w' => ∃ A' c', e = .returned (.slice A' t.length c') ∧ w'.ownsRow w.heap.size 2 1 (.slice A' t.length c') t.length (tV t) ∧ Below w.heap.size w w' := by
  have h := cloneInt_ok A c (t.map Int.ofNat) w (ints_own hT) (by simpa using hn) (own_nil0 hT)
  rw [List.length_map] at h
  refine h.mono ?_
  rintro e w' ⟨A', c', rfl, ho, _, hb⟩
  rw [List.length_map] at ho
  exact ⟨A', c', by rw [List.length_map], ho, hb⟩
theorem ownT_ok (A : Option Addr) (c : Nat) (t : List Nat) (w : World) {B : Nat} (hT : w.ownsRow B 2 1 (.slice A t.length c) t.length (tV t)) (hn : t.length ≤ 1048576) :
    Calls Try.prog 98 #[.slice A t.length c] w fun e w' => ∃ A' c', e = .returned (.slice A' t.length c') ∧ w'.ownsRow w.heap.size 2 1 (.slice A' t.length c') t.length (tV t) ∧ Below w.heap.size w w' := by
  have h := l00Own_ok A c (t.map Int.ofNat) w (ints_own hT) (by simpa using hn) (own_nil0 hT)
  rw [List.length_map] at h
  refine h.mono ?_
  rintro e w' ⟨A', c', rfl, ho, _, hb⟩
  rw [List.length_map] at ho
  exact ⟨A', c', by rw [List.length_map], ho, hb⟩
/-- a colour that no step of the search turns -/
def ColAt (b s : Nat) (w : World) (G : Option Addr) (c : List Int) : Prop := ∃ gb go, G = some ⟨gb, go, none⟩ ∧ gb < w.heap.size ∧ gb ≠ b ∧ blkAt b s w ≠ some gb ∧ ∀ (j : Nat) (n : Int), c[j]? = some n → w.cell? ⟨gb, go + j, none⟩ = some (.int .i64 n)
theorem ColAt.ints {b s : Nat} {w : World} {G : Option Addr} {c : List Int} (h : ColAt b s w G c) : IntsAt w G c := fun _ => by
  obtain ⟨gb, go, hG, hl, -, -, hc⟩ := h
  exact ⟨gb, go, hG, hl, hc⟩
theorem ColAt.kept {b s : Nat} {w w' : World} {G : Option Addr} {c : List Int} (h : ColAt b s w G c) (hk : Kept b s (fun _ => False) w w') : ColAt b s w' G c := by
  obtain ⟨gb, go, hG, hl, hb, ht, hc⟩ := h
  refine ⟨gb, go, hG, Nat.lt_of_lt_of_le hl hk.size, hb, ?_, fun j n hj => hk.cell hl hb (fun h => h) ht (hc j n hj)⟩
  rcases hk.tk with h1 | ⟨g, h1, h2⟩
  · rw [h1]; exact ht
  · rw [h1]; intro e; injection e with e; omega
/-- a colour in new memory -/
theorem ColAt.new {b s : Nat} {w w' : World} {A : Option Addr} {c : List Int} {n cp : Nat} (ho : w'.ownsRow w.heap.size 2 1 (.slice A n cp) n (c.map (Value.int .i64))) (hc : c.length = 3) (hb : b < w.heap.size) (hbel : Below w.heap.size w w') (ht : ∀ g, blkAt b s w = some g → g < w.heap.size) : ColAt b s w' A c := by
  obtain ⟨gb, go, hA, hl, hcl⟩ := ints_own ho (by intro e; rw [e] at hc; cases hc)
  have hgb : w.heap.size ≤ gb := (ho.lt gb (by rw [hA]; rfl)).1
  refine ⟨gb, go, hA, hl, by omega, ?_, hcl⟩
  intro e
  have h1 : blkAt b s w' = blkAt b s w := by unfold blkAt; rw [hbel.cell (p := ⟨b, s, none⟩) hb]
  rw [h1] at e
  have := ht gb e
  omega
def leastF (m : Int) : Int := if m < 0 then 0 else m
theorem leastF_of {m : Int} (h : 0 ≤ m) : leastF m = m := by unfold leastF; rw [if_neg (by omega)]
/-- a call's answer -/
def CPost (b : Nat) (w0 w : World) (LA GA : Value) (mo : Int) (r : Option WS) (t : List Nat) (e : Ending) (w' : World) : Prop :=
  (Below b w0 w' ∧ Kept b 4 (fun _ => False) w w') ∧ match r with
  | none => e = .returned (.bool false) ∧ ∃ left best least found, CoaAt b LA GA mo left t best least found w'
  | some S => e = .returned (.bool true) ∧ (S.left ≤ 20000 ∧ 0 ≤ S.most) ∧ CoaAt b LA GA mo (S.left : Int) t S.best S.most true w'
def DPost (b : Nat) (w0 w : World) (LA GA : Value) (mo bud : Int) (r : Option WS) (t : List Nat) (e : Ending) (w' : World) : Prop :=
  Below b w0 w' ∧ match r with
  | none => e = .returned (.bool true)
  | some S => (e = .returned (.bool false) ∧ Kept b 3 (fun _ => False) w w') ∧ ((S.left : Int) ≤ bud ∧ 0 ≤ S.most) ∧ RoaAt b LA GA mo t S.best S.most (bud - S.left) bud w'

end Go.Proofs.Ytdbjbkdcmhekfaa
