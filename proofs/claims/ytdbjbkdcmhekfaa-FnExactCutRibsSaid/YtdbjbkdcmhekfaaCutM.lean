/- CutRibs: the search, no program in sight. -/
import Derived.Test.YtdbjbkdcmhekfaaVRib
import Derived.Test.YtdbjbkdcmhekfaaLoopM
namespace Go.Proofs.Ytdbjbkdcmhekfaa
open Go.RowKit
set_option linter.unusedVariables false

/-- how a search ends: the budget is spent; all are placed; no way, so much of the budget is left -/
inductive Cut where
  | full : Cut
  | solved : List Nat → Cut
  | fail : Nat → Cut
/-- m ways one behind the other, from way k on -/
def loopC (f : Nat → Nat → Cut) : Nat → Nat → Nat → Cut
  | 0, _, l => .fail l
  | m + 1, k, l => match f k l with
    | .fail l2 => loopC f m (k + 1) l2
    | .full => .full
    | .solved t => .solved t
theorem loopC_fail {f : Nat → Nat → Cut} {m k l l2 : Nat} (h : f k l = .fail l2) : loopC f (m + 1) k l = loopC f m (k + 1) l2 := by rw [loopC, h]
theorem loopC_full {f : Nat → Nat → Cut} {m k l : Nat} (h : f k l = .full) : loopC f (m + 1) k l = .full := by rw [loopC, h]
theorem loopC_solved {f : Nat → Nat → Cut} {m k l : Nat} {t : List Nat} (h : f k l = .solved t) : loopC f (m + 1) k l = .solved t := by rw [loopC, h]
theorem loopC_keep {f : Nat → Nat → Cut} {b : Nat} (hf : ∀ k l l2, l ≤ b → f k l = .fail l2 → l2 ≤ b) : ∀ (m k l l2 : Nat), l ≤ b → loopC f m k l = .fail l2 → l2 ≤ b
  | 0, _, l, l2, h, e => by rw [loopC] at e; injection e with e; omega
  | m + 1, k, l, l2, h, e => by
    rw [loopC] at e
    cases hq : f k l with
    | fail l3 => rw [hq] at e; exact loopC_keep hf m (k + 1) l3 l2 (hf k l l3 h hq) e
    | full => rw [hq] at e; cases e
    | solved t => rw [hq] at e; cases e
theorem loopC_solve {f : Nat → Nat → Cut} {q : List Nat → Prop} (hf : ∀ k l t, f k l = .solved t → q t) : ∀ (m k l : Nat) (t : List Nat), loopC f m k l = .solved t → q t
  | 0, _, l, t, e => by rw [loopC] at e; cases e
  | m + 1, k, l, t, e => by
    rw [loopC] at e
    cases hq : f k l with
    | fail l3 => rw [hq] at e; exact loopC_solve hf m (k + 1) l3 t e
    | full => rw [hq] at e; cases e
    | solved t2 => rw [hq] at e; injection e with e; subst e; exact hf k l _ hq
/-- the room of the strips, one more where strip k is a new one -/
def frA (fr : List Int) (k : Nat) (s : Int) : List Int := if k < fr.length then fr else fr ++ [s]
def frB (fr : List Int) (k : Nat) (s : Int) : Int := (frA fr k s).getD k 0
theorem frA_lt {fr : List Int} {k : Nat} {s : Int} (h : k < fr.length) : frA fr k s = fr := by unfold frA; rw [if_pos h]
theorem frA_end {fr : List Int} {s : Int} : frA fr fr.length s = fr ++ [s] := by unfold frA; rw [if_neg (by omega)]
theorem frA_has {fr : List Int} {k : Nat} {s : Int} (h : k ≤ fr.length) : k < (frA fr k s).length := by
  unfold frA
  split
  · assumption
  · rw [List.length_append, List.length_singleton]; omega
theorem frB_at {fr : List Int} {k : Nat} {s : Int} (h : k ≤ fr.length) : (frA fr k s)[k]? = some (frB fr k s) := by
  unfold frB
  rw [List.getD_eq_getElem?_getD, List.getElem?_eq_getElem (frA_has h)]
  rfl
/-- set back and cut away: as it was -/
theorem frA_back {fr : List Int} {k : Nat} {s v : Int} (h : k ≤ fr.length) : (((frA fr k s).set k v).set k (frB fr k s)).take fr.length = fr := by
  rw [List.set_set]
  have e : (frA fr k s).set k (frB fr k s) = frA fr k s := by
    apply List.ext_getElem?
    intro i
    by_cases hi : k = i
    · subst hi
      rw [List.getElem?_set_self (frA_has h), frB_at h]
    · rw [List.getElem?_set_ne hi]
  rw [e]
  unfold frA
  split
  · exact List.take_length
  · exact List.take_left
theorem frA_back0 {fr : List Int} {k : Nat} {s : Int} (h : k ≤ fr.length) : ((frA fr k s).set k (frB fr k s)).take fr.length = fr := by
  have h1 := frA_back (v := frB fr k s) (s := s) h
  rwa [List.set_set] at h1
def FrOk (fr : List Int) : Prop := ∀ f ∈ fr, 0 ≤ f ∧ f ≤ 200000
theorem frB_bd {fr : List Int} {k : Nat} {s : Int} (h : FrOk fr) (hs : 0 ≤ s ∧ s ≤ 200000) (hk : k ≤ fr.length) : 0 ≤ frB fr k s ∧ frB fr k s ≤ 200000 := by
  have h1 := List.mem_of_getElem? (frB_at (s := s) hk)
  unfold frA at h1
  split at h1
  · exact h _ h1
  · rcases List.mem_append.1 h1 with h1 | h1
    · exact h _ h1
    · rw [List.mem_singleton.1 h1]; exact hs
theorem FrOk.set {fr : List Int} {k : Nat} {s v : Int} (h : FrOk fr) (hs : 0 ≤ s ∧ s ≤ 200000) (hv : 0 ≤ v ∧ v ≤ 200000) : FrOk ((frA fr k s).set k v) := fun f hf => by
  rcases List.mem_or_eq_of_mem_set hf with h1 | h1
  · unfold frA at h1
    split at h1
    · exact h _ h1
    · rcases List.mem_append.1 h1 with h1 | h1
      · exact h _ h1
      · rw [List.mem_singleton.1 h1]; exact hs
  · rw [h1]; exact hv
/-- the search: m ribs are left -/
def cutS (ls : List Int) (strip saw : Int) (most : Nat) : Nat → List Int → List Nat → Nat → Cut
  | 0, _, t, _ => .solved t
  | m + 1, fr, t, l => loopC (fun k l2 => if frB fr k (strip + saw) < ls.getD t.length 0 + saw then .fail l2 else if l2 = 0 then .full else
      cutS ls strip saw most m ((frA fr k (strip + saw)).set k (frB fr k (strip + saw) - (ls.getD t.length 0 + saw))) (t ++ [k]) (l2 - 1)) (min (fr.length + 1) most) 0 l
theorem cutS_left {ls : List Int} {strip saw : Int} {most b : Nat} : ∀ (m : Nat) (fr : List Int) (t : List Nat) (l l2 : Nat), l ≤ b → cutS ls strip saw most m fr t l = .fail l2 → l2 ≤ b
  | 0, _, _, _, _, _, e => by rw [cutS] at e; cases e
  | m + 1, fr, t, l, l2, h, e => by
    rw [cutS] at e
    refine loopC_keep (fun k l3 l4 h3 h4 => ?_) _ 0 l l2 h e
    split at h4
    · injection h4 with h4; omega
    · split at h4
      · cases h4
      · exact cutS_left m _ _ (l3 - 1) l4 (by omega) h4
theorem cutS_len {ls : List Int} {strip saw : Int} {most : Nat} : ∀ (m : Nat) (fr : List Int) (t : List Nat) (l : Nat) (t2 : List Nat), cutS ls strip saw most m fr t l = .solved t2 → t2.length = t.length + m
  | 0, _, _, _, _, e => by rw [cutS] at e; injection e with e; rw [e]; rfl
  | m + 1, fr, t, l, t2, e => by
    rw [cutS] at e
    refine loopC_solve (q := fun t2 => t2.length = t.length + (m + 1)) (fun k l3 t3 h4 => ?_) _ 0 l t2 e
    split at h4
    · cases h4
    · split at h4
      · cases h4
      · have := cutS_len m _ _ (l3 - 1) t3 h4
        rw [List.length_append, List.length_singleton] at this
        omega
/-- the fewest strips -/
def topC (ls : List Int) (strip saw : Int) : Nat → Nat → Nat → Option (List Nat × Nat)
  | 0, _, _ => none
  | n + 1, k, l => match cutS ls strip saw k ls.length [] [] l with
    | .full => none
    | .solved t => some (t, k)
    | .fail l2 => topC ls strip saw n (k + 1) l2
def lens (xs : List DRib) : List Int := xs.map fun x => x.fLength
theorem lens_at {xs : List DRib} {i : Nat} (h : i < xs.length) : (lens xs).getD i 0 = xs[i].fLength := by unfold lens; simp [h]
noncomputable def fCut (xs : List DRib) (strip saw bud : Int) : List Int × Int × Int :=
  if ribsB xs = false then ([], 0, 1) else if inB strip 1 100000 = false ∨ inB saw 0 100 = false ∨ inB bud 1 20000 = false then ([], 0, 2) else if (lens xs).any (fun n => decide (strip < n)) = true then ([], 0, 6) else match topC (lens xs) strip saw 9 0 bud.toNat with
  | none => ([], 0, 5)
  | some (t, k) => (intsN t, (k : Int), 0)

end Go.Proofs.Ytdbjbkdcmhekfaa
