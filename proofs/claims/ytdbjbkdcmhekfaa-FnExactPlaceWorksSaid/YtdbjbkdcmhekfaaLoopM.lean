/- A search's loop over the ways: no program in sight. -/
import Derived.Lib.Hide
namespace Go.Proofs.Ytdbjbkdcmhekfaa
set_option linter.unusedVariables false
/-- m ways one behind the other, from way k on; none: the budget is spent -/
def loopO {σ : Type} (f : Nat → σ → Option σ) : Nat → Nat → σ → Option σ
  | 0, _, S => some S
  | m + 1, k, S => (f k S).bind (loopO f m (k + 1))
theorem loopO_succ {σ : Type} {f : Nat → σ → Option σ} {m k : Nat} {S : σ} : loopO f (m + 1) k S = (f k S).bind (loopO f m (k + 1)) := rfl
theorem loopO_some {σ : Type} {f : Nat → σ → Option σ} {m k : Nat} {S S2 : σ} (h : f k S = some S2) : loopO f (m + 1) k S = loopO f m (k + 1) S2 := by rw [loopO_succ, h]; rfl
theorem loopO_none {σ : Type} {f : Nat → σ → Option σ} {m k : Nat} {S : σ} (h : f k S = none) : loopO f (m + 1) k S = none := by rw [loopO_succ, h]; rfl
/-- what each way keeps, the loop keeps -/
theorem loopO_keep {σ : Type} {f : Nat → σ → Option σ} {q : σ → Prop} (hf : ∀ k S S', q S → f k S = some S' → q S') : ∀ (m k : Nat) (S S' : σ), q S → loopO f m k S = some S' → q S'
  | 0, _, S, S', hq, h => by cases h; exact hq
  | m + 1, k, S, S', hq, h => by
    rw [loopO_succ] at h
    obtain ⟨S1, h1, h2⟩ := Option.bind_eq_some_iff.1 h
    exact loopO_keep hf m (k + 1) S1 S' (hf k S S1 hq h1) h2
structure WS where
  left : Nat
  best : List Nat
  most : Int
def intsN (t : List Nat) : List Int := t.map fun (i : Nat) => (i : Int)
theorem intsN_length (t : List Nat) : (intsN t).length = t.length := by simp [intsN]
theorem intsN_snoc (t : List Nat) (k : Nat) : intsN (t ++ [k]) = intsN t ++ [(k : Int)] := by simp [intsN]

end Go.Proofs.Ytdbjbkdcmhekfaa
