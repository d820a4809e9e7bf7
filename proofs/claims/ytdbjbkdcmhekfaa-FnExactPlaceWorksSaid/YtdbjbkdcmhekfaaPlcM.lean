/- PlaceWorks: the search, no program in sight. -/
import Derived.Test.YtdbjbkdcmhekfaaVWork
namespace Go.Proofs.Ytdbjbkdcmhekfaa
open Go.RowKit
set_option linter.unusedVariables false

/-- how a search ends -/
inductive Plc where
  | full : Plc
  | solved : List (List Int) → Plc
  | fail : Nat → Plc
/-- m ways one behind the other, from way k on -/
def loopP (f : Nat → Nat → Plc) : Nat → Nat → Nat → Plc
  | 0, _, l => .fail l
  | m + 1, k, l => match f k l with
    | .fail l2 => loopP f m (k + 1) l2
    | .full => .full
    | .solved t => .solved t
theorem loopP_fail {f : Nat → Nat → Plc} {m k l l2 : Nat} (h : f k l = .fail l2) : loopP f (m + 1) k l = loopP f m (k + 1) l2 := by rw [loopP, h]
theorem loopP_full {f : Nat → Nat → Plc} {m k l : Nat} (h : f k l = .full) : loopP f (m + 1) k l = .full := by rw [loopP, h]
theorem loopP_solved {f : Nat → Nat → Plc} {m k l : Nat} {t : List (List Int)} (h : f k l = .solved t) : loopP f (m + 1) k l = .solved t := by rw [loopP, h]
theorem loopP_solve {f : Nat → Nat → Plc} {q : List (List Int) → Prop} (hf : ∀ k l t, f k l = .solved t → q t) : ∀ (m k l : Nat) (t : List (List Int)), loopP f m k l = .solved t → q t
  | 0, _, l, t, e => by rw [loopP] at e; cases e
  | m + 1, k, l, t, e => by
    rw [loopP] at e
    cases hq : f k l with
    | fail l3 => rw [hq] at e; exact loopP_solve hf m (k + 1) l3 t e
    | full => rw [hq] at e; cases e
    | solved t2 => rw [hq] at e; injection e with e; subst e; exact hf k l _ hq
/-- n days from day f on given to a work -/
def fillT (r : List Int) (f : Nat) (v : Int) : Nat → List Int
  | 0 => r
  | n + 1 => (fillT r f v n).set (f + n) v
theorem fillT_length (r : List Int) (f : Nat) (v : Int) : ∀ n, (fillT r f v n).length = r.length
  | 0 => rfl
  | n + 1 => by rw [fillT, List.length_set, fillT_length r f v n]
theorem fillT_at (r : List Int) (f : Nat) (v : Int) (i : Nat) : ∀ n, f + n ≤ r.length → (fillT r f v n)[i]? = if f ≤ i ∧ i < f + n then some v else r[i]?
  | 0, h => by rw [fillT, if_neg (by omega)]
  | n + 1, h => by
    rw [fillT]
    by_cases hi : f + n = i
    · rw [← hi, List.getElem?_set_self (by rw [fillT_length]; omega), if_pos (by omega)]
    · rw [List.getElem?_set_ne hi, fillT_at r f v i n (by omega)]
      by_cases h1 : f ≤ i ∧ i < f + n
      · rw [if_pos h1, if_pos (by omega)]
      · rw [if_neg h1, if_neg (by omega)]
/-- n days from day f on are free -/
def FreeTo (r : List Int) (f n : Nat) : Prop := ∀ j, j < n → r[f + j]? = some 0
noncomputable def freeB (r : List Int) (f n : Nat) : Bool := @decide (f + n ≤ 40 ∧ FreeTo r f n) (Classical.propDecidable _)
theorem freeB_iff {r : List Int} {f n : Nat} : freeB r f n = true ↔ f + n ≤ 40 ∧ FreeTo r f n := by simp [freeB]
theorem freeB_false {r : List Int} {f n : Nat} (h : ¬ (f + n ≤ 40 ∧ FreeTo r f n)) : freeB r f n = false := by simp only [freeB, decide_eq_false_iff_not]; exact h
theorem FreeTo.zero (r : List Int) (f : Nat) : FreeTo r f 0 := fun j h => absurd h (by omega)
theorem FreeTo.succ {r : List Int} {f k : Nat} (h : FreeTo r f k) (h1 : r[f + k]? = some 0) : FreeTo r f (k + 1) := fun j hj => by
  rcases Nat.lt_or_ge j k with h2 | h2
  · exact h j h2
  · have e : j = k := by omega
    subst e
    exact h1
theorem fill_back {r : List Int} {f n : Nat} {v : Int} (hl : f + n ≤ r.length) (h : FreeTo r f n) : fillT (fillT r f v n) f 0 n = r := by
  apply List.ext_getElem?
  intro i
  rw [fillT_at _ f 0 i n (by rw [fillT_length]; exact hl)]
  by_cases h1 : f ≤ i ∧ i < f + n
  · rw [if_pos h1]
    have := h (i - f) (by omega)
    rw [show f + (i - f) = i by omega] at this
    exact this.symm
  · rw [if_neg h1, fillT_at r f v i n hl, if_neg h1]
def dayN (x : DWork) : Nat := x.fDays.toNat
def fstN (x : DWork) : Nat := x.fFirst.toNat
/-- how many days are tried -/
def cntN (x : DWork) : Nat := (x.fLast - x.fFirst - x.fDays + 2).toNat
def rowN (p : List (List Int)) (b : Nat) : List Int := p.getD b []
theorem rowN_at {p : List (List Int)} {b : Nat} (h : b < p.length) : rowN p b = p[b] := by unfold rowN; simp [h]
/-- the search: m works are left, work i is next -/
noncomputable def plcS (xs : List DWork) : Nat → Nat → List (List Int) → Nat → Plc
  | 0, _, p, _ => .solved p
  | m + 1, i, p, l => match xs[i]? with
    | none => .full
    | some x => loopP (fun b l2 => loopP (fun d l3 => if freeB (rowN p b) (fstN x + d) (dayN x) = false then .fail l3 else if l3 = 0 then .full else
        plcS xs m (i + 1) (p.set b (fillT (rowN p b) (fstN x + d) ((i : Int) + 1) (dayN x))) (l3 - 1)) (cntN x) 0 l2) p.length 0 l
theorem plcS_len {xs : List DWork} : ∀ (m i : Nat) (p : List (List Int)) (l : Nat) (q : List (List Int)), (∀ r ∈ p, r.length = 40) → plcS xs m i p l = .solved q → q.length = p.length ∧ ∀ r ∈ q, r.length = 40
  | 0, i, p, l, q, h, e => by rw [plcS] at e; injection e with e; subst e; exact ⟨rfl, h⟩
  | m + 1, i, p, l, q, h, e => by
    rw [plcS] at e
    split at e
    · cases e
    · rename_i x hx
      refine loopP_solve (q := fun q => q.length = p.length ∧ ∀ r ∈ q, r.length = 40) (fun b l2 t h2 => ?_) _ 0 l q e
      refine loopP_solve (q := fun q => q.length = p.length ∧ ∀ r ∈ q, r.length = 40) (fun d l3 t2 h3 => ?_) _ 0 l2 t h2
      split at h3
      · cases h3
      · split at h3
        · cases h3
        · by_cases hb : b < p.length
          · have h4 := plcS_len m (i + 1) _ (l3 - 1) t2 (fun r hr => by
              rcases List.mem_or_eq_of_mem_set hr with h5 | h5
              · exact h r h5
              · rw [h5, fillT_length, rowN_at hb]; exact h _ (List.getElem_mem hb)) h3
            rw [List.length_set] at h4
            exact h4
          · rw [List.set_eq_of_length_le (by omega)] at h3
            exact plcS_len m (i + 1) p (l3 - 1) t2 h h3
theorem workD_bd {x : DWork} (h : workD x = true) : (1 ≤ x.fDays ∧ x.fDays ≤ 40) ∧ (0 ≤ x.fFirst ∧ x.fFirst ≤ 39) ∧ (0 ≤ x.fLast ∧ x.fLast ≤ 39) ∧ x.fFirst + x.fDays - 1 ≤ x.fLast := by
  simp only [workD, workB, Bool.and_eq_true, inB_iff, decide_eq_true_eq] at h
  omega
def zeroR : List Int := List.replicate 40 0
def plan0 (n : Nat) : List (List Int) := List.replicate n zeroR
noncomputable def fPlcT (n : Nat) (xs : List DWork) (bud : Int) : List (List Int) × Int := match plcS xs xs.length 0 (plan0 n) bud.toNat with
  | .full => ([], 5)
  | .solved p => (p, 0)
  | .fail _ => ([], 3)
noncomputable def fPlc (n : Int) (xs : List DWork) (bud : Int) : List (List Int) × Int :=
  if worksB xs = false then ([], 1) else if inB n 1 6 = false ∨ inB bud 1 20000 = false then ([], 2) else fPlcT n.toNat xs bud

end Go.Proofs.Ytdbjbkdcmhekfaa
