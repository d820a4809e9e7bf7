/- The laws' helpers over slices of int64: their size, a copy, equality. -/
import Derived.Test.YtfagfohcbdlaeaaBasic
import Derived.Laws.MakeOwn
import Derived.OwnWalk
import Derived.Laws.OwnMore
namespace Go.Proofs.Ytfagfohcbdlaeaa
open Go.RowKit
set_option linter.unusedVariables false

theorem made_one (v : Value) (n : Nat) (h : v.cells = #[v]) : (madeCells v.cells (n * 1)).toList = List.replicate n v := by
  rw [h, Nat.mul_one, toList_madeCells_one]
theorem infoI : (Try.prog.info? 2).map (fun i => (i.zero, i.size, i.bytes)) = some (some (.int .i64 0), 1, 8) := by kernel_rfl

/-- what is left of a budget; -1 if it is spent -/
def subSz (l : Int) (n : Nat) : Int := if l < n then -1 else l - n
theorem subSz_le {l : Int} {n : Nat} (h : 0 ≤ subSz l n) : (n : Int) ≤ l := by unfold subSz at h; split at h <;> omega
theorem copy_at {α : Type} {xs : List α} {z : α} {k : Nat} (h : k < xs.length) : (xs.take k ++ List.replicate (xs.length - k) z)[k]? = some z := by
  rw [List.getElem?_append_right (by rw [List.length_take]; omega), List.length_take, List.getElem?_replicate, if_pos (by omega)]
theorem copy_set {α : Type} {xs : List α} {z : α} {k : Nat} (h : k < xs.length) : (xs.take k ++ List.replicate (xs.length - k) z).set k xs[k] = xs.take (k + 1) ++ List.replicate (xs.length - (k + 1)) z := by
  rw [List.set_append_right _ _ (by rw [List.length_take]; omega), List.length_take, List.take_succ_eq_append_getElem h, List.append_assoc]
  have e : k - min k xs.length = 0 := by omega
  have e2 : xs.length - k = (xs.length - (k + 1)) + 1 := by omega
  rw [e, e2, List.replicate_succ, List.set_cons_zero]
  rfl

/-- a row of integers that is owned reads as one -/
theorem ints_own {w : World} {B : Nat} {e : TypeId} {A : Option Addr} {n c : Nat} {ns : List Int} (h : w.ownsRow B e 1 (.slice A n c) n (ns.map (Value.int .i64))) : IntsAt w A ns := fun hne => by
  have hl : ns.length = n := by have := h.1; simpa using this
  have hp : 0 < n := by rw [← hl]; exact (by cases ns; exact absurd rfl hne; simp)
  obtain ⟨g, cap, hv, _, hg, _⟩ := own_form h hp
  injection hv with hA _ hcap
  subst hA hcap
  refine ⟨g, 0, rfl, hg, fun j m hj => ?_⟩
  have hjl : j < ns.length := (List.getElem?_eq_some_iff.1 hj).1
  rw [Nat.zero_add, h.cellAt j (by omega), List.getElem?_map, hj]
  rfl


theorem below_drewN' {B : Nat} {w w' : World} (h : Below B w w') (n : Nat) : Below B w (w'.drewN n) := ⟨h.os, h.tape, h.output, h.size, h.block⟩

set_option maxHeartbeats 800000 in
set_option maxRecDepth 100000 in
/-- two slices that read alike are alike -/
theorem eqInt64S_same (A A' : Option Addr) (c c' : Nat) (ns : List Int) (w : World) (hA : IntsAt w A ns) (hA' : IntsAt w A' ns) (hn : ns.length ≤ 1048576) :
    Calls Try.prog 38 #[.slice A ns.length c, .slice A' ns.length c'] w fun e w' => e = .returned (.bool true) ∧ Below w.heap.size w w' := by
  have HA := hid hA
  have HA' := hid hA'
  clear hA hA'
  go_enter Try.func38, Try.ntmps38
  go_wp2_with fail
  go_loopw [5] (fun i wr => ∃ k : Nat, k ≤ ns.length ∧ i = .int .i64 k ∧ Below w.heap.size w wr) (fun i _ => ns.length - (intOf i).toNat)
  case atStart => exact ⟨0, Nat.zero_le _, rfl, Below.refl _ _⟩
  case round =>
    obtain ⟨k, hk, rfl, hbel⟩ := hrel
    by_cases hkl : k < ns.length
    · have hne : ns ≠ [] := by intro e; rw [e] at hkl; exact absurd hkl (by simp)
      obtain ⟨b, o, rfl, hlt, hc⟩ := HA.out hne
      obtain ⟨b', o', rfl, hlt', hc'⟩ := HA'.out hne
      have hcell : wr.cell? ⟨b, o + k, none⟩ = some (.int .i64 ns[k]) := (hbel.cell (p := ⟨b, o + k, none⟩) hlt).trans (hc k _ (List.getElem?_eq_getElem hkl))
      have hcell' : wr.cell? ⟨b', o' + k, none⟩ = some (.int .i64 ns[k]) := (hbel.cell (p := ⟨b', o' + k, none⟩) hlt').trans (hc' k _ (List.getElem?_eq_getElem hkl))
      have q0 : (0 : Int) ≤ (k : Int) := by omega
      have q1 : (k : Int) < ns.length := by omega
      clear hc hc' HA HA' hne
      go_wp2_with fail
      go_quiet (fail)
      go_wp2_with fail
      go_roundw
      case rel => exact ⟨k + 1, by omega, by go_num, below_drewN' hbel _⟩
      case measure => simp [intOf]; omega
    · go_wp2_with fail
      go_ret
      exact ⟨rfl, hbel⟩

end Go.Proofs.Ytfagfohcbdlaeaa
