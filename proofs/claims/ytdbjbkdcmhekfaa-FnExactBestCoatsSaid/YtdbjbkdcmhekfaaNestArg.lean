/- Arguments opened: slices of structs whose last field is a slice. No program in sight. -/
import Derived.Test.YtdbjbkdcmhekfaaNest
import Derived.Test.YtdbjbkdcmhekfaaRowsArg
namespace Go.Proofs.Ytdbjbkdcmhekfaa
open Go.ChangeShapes Go.WideShapes Go.ChangeAt Go.RowKit Go.Deep
set_option linter.unusedVariables false

theorem choose_list {α β : Type} {P : α → β → Prop} : ∀ {l : List α}, (∀ a ∈ l, ∃ b, P a b) → ∃ bs : List β, bs.length = l.length ∧ ∀ (i : Nat) (a : α) (b : β), l[i]? = some a → bs[i]? = some b → P a b
  | [], _ => ⟨[], rfl, fun i a b h => by simp at h⟩
  | a :: r, h => by
    obtain ⟨b, hb⟩ := h a (by simp)
    obtain ⟨bs, hl, hp⟩ := choose_list (P := P) (l := r) (fun a ha => h a (by simp [ha]))
    refine ⟨b :: bs, by simp [hl], fun i a' b' h1 h2 => ?_⟩
    cases i with
    | zero => simp at h1 h2; subst h1 h2; exact hb
    | succ i => exact hp i a' b' (by simpa using h1) (by simpa using h2)

theorem nest_arg {α : Type} {hd : α → List Value} {inn : α → List (List Value)} {q : α → Prop} {k : Nat} {w : World} {A : Option Addr} {css : List (List Value)} (hhd : ∀ v, (hd v).length = 3) (hR : RowsAt w 4 A css)
    (h : ∀ r ∈ css, ∃ d : α, q d ∧ ∃ A' c', r = hd d ++ [.slice A' (inn d).length c'] ∧ RowsAt w k A' (inn d)) : ∃ vs : List α, vs.length = css.length ∧ NestAt k hd inn w A vs ∧ ∀ x ∈ vs, q x := by
  obtain ⟨vs, hl, hp⟩ := choose_list h
  refine ⟨vs, hl, fun hne => ?_, fun x hx => ?_⟩
  · obtain ⟨b, o, rfl, hlt, hc⟩ := hR (by intro e; subst e; exact hne (List.eq_nil_of_length_eq_zero (by simpa using hl)))
    refine ⟨b, o, rfl, hlt, fun i v hv => ?_⟩
    have hil : i < css.length := by have := (List.getElem?_eq_some_iff.1 hv).1; omega
    obtain ⟨_, A', c', hr, hin⟩ := hp i css[i] v (List.getElem?_eq_getElem hil) hv
    have hcell := hc i css[i] (List.getElem?_eq_getElem hil)
    rw [hr] at hcell
    refine ⟨fun j u hj => hcell j u ?_, A', c', hcell 3 _ ?_, hin⟩
    · rw [List.getElem?_append_left (List.getElem?_eq_some_iff.1 hj).1]; exact hj
    · rw [List.getElem?_append_right (by rw [hhd]; exact Nat.le_refl _), hhd]; rfl
  · obtain ⟨i, hi, rfl⟩ := List.mem_iff_getElem.1 hx
    exact (hp i _ _ (List.getElem?_eq_getElem (by omega)) (List.getElem?_eq_getElem hi)).1

end Go.Proofs.Ytdbjbkdcmhekfaa
