/- The laws' helpers over slices of int64: their size, a copy, equality. -/
import Derived.Test.YtmfadjdpbobfhaaDoorBasic
import Derived.Laws.MakeOwn
import Derived.OwnWalk
import Derived.Laws.OwnMore
namespace Go.Proofs.YtmfadjdpbobfhaaDoor
open Go.RowKit
set_option linter.unusedVariables false

theorem made_one (v : Value) (n : Nat) (h : v.cells = #[v]) : (madeCells v.cells (n * 1)).toList = List.replicate n v := by
  rw [h, Nat.mul_one, toList_madeCells_one]
theorem infoI : (Tryd.prog.info? 2).map (fun i => (i.zero, i.size, i.bytes)) = some (some (.int .i64 0), 1, 8) := by kernel_rfl

/-- what is left of a budget; -1 if it is spent -/
def subSz (l : Int) (n : Nat) : Int := if l < n then -1 else l - n
theorem subSz_le {l : Int} {n : Nat} (h : 0 ≤ subSz l n) : (n : Int) ≤ l := by unfold subSz at h; split at h <;> omega
theorem copy_at {α : Type} {xs : List α} {z : α} {k : Nat} (h : k < xs.length) : (xs.take k ++ List.replicate (xs.length - k) z)[k]? = some z := by
  rw [List.getElem?_append_right (by rw [List.length_take]; omega), List.length_take, List.getElem?_replicate, if_pos (by omega)]
theorem copy_set {α : Type} {xs : List α} {z : α} {k : Nat} (h : k < xs.length) : (xs.take k ++ List.replicate (xs.length - k) z).set k xs[k] = xs.take (k + 1) ++ List.replicate (xs.length - (k + 1)) z := by
  rw [List.set_append_right _ _ (by rw [List.length_take]; omega), List.length_take, List.take_succ_eq_append_getElem h, List.append_assoc]
  have e : k - min k xs.length = 0 := by omega
  have e2 : xs.length - k = (xs.length - (k + 1)) + 1 := by omega
  rw [e, e2, List.replicate_succ, List.set_cons_zero]
  rfl

/-- a row of integers that is owned reads as one -/
theorem ints_own {w : World} {B : Nat} {e : TypeId} {A : Option Addr} {n c : Nat} {ns : List Int} (h : w.ownsRow B e 1 (.slice A n c) n (ns.map (Value.int .i64))) : IntsAt w A ns := fun hne => by
  have hl : ns.length = n := by have := h.1; simpa using this
  have hp : 0 < n := by rw [← hl]; exact (by cases ns; exact absurd rfl hne; simp)
  obtain ⟨g, cap, hv, _, hg, _⟩ := own_form h hp
  injection hv with hA _ hcap
  subst hA hcap
  refine ⟨g, 0, rfl, hg, fun j m hj => ?_⟩
  have hjl : j < ns.length := (List.getElem?_eq_some_iff.1 hj).1
  rw [Nat.zero_add, h.cellAt j (by omega), List.getElem?_map, hj]
  rfl


theorem below_drewN' {B : Nat} {w w' : World} (h : Below B w w') (n : Nat) : Below B w (w'.drewN n) := ⟨h.os, h.tape, h.output, h.size, h.block⟩


end Go.Proofs.YtmfadjdpbobfhaaDoor
