/- The laws' helpers over slices of int64: their size, a copy, equality. -/
import Derived.Test.YtdbjbkdcmhekfaaBasic
import Derived.Laws.MakeOwn
import Derived.OwnWalk
import Derived.Laws.OwnMore
namespace Go.Proofs.Ytdbjbkdcmhekfaa
open Go.RowKit
set_option linter.unusedVariables false

theorem made_one (v : Value) (n : Nat) (h : v.cells = #[v]) : (madeCells v.cells (n * 1)).toList = List.replicate n v := by
  rw [h, Nat.mul_one, toList_madeCells_one]
theorem infoI : (Try.prog.info? 2).map (fun i => (i.zero, i.size, i.bytes)) = some (some (.int .i64 0), 1, 8) := by kernel_rfl

/-- what is left of a budget; -1 if it is spent -/
def subSz (l : Int) (n : Nat) : Int := if l < n then -1 else l - n
theorem subSz_le {l : Int} {n : Nat} (h : 0 ≤ subSz l n) : (n : Int) ≤ l := by unfold subSz at h; split at h <;> omega
theorem copy_at {α : Type} {xs : List α} {z : α} {k : Nat} (h : k < xs.length) : (xs.take k ++ List.replicate (xs.length - k) z)[k]? = some z := by
  rw [List.getElem?_append_right (by rw [List.length_take]; omega), List.length_take, List.getElem?_replicate, if_pos (by omega)]
theorem copy_set {α : Type} {xs : List α} {z : α} {k : Nat} (h : k < xs.length) : (xs.take k ++ List.replicate (xs.length - k) z).set k xs[k] = xs.take (k + 1) ++ List.replicate (xs.length - (k + 1)) z := by
  rw [List.set_append_right _ _ (by rw [List.length_take]; omega), List.length_take, List.take_succ_eq_append_getElem h, List.append_assoc]
  have e : k - min k xs.length = 0 := by omega
  have e2 : xs.length - k = (xs.length - (k + 1)) + 1 := by omega
  rw [e, e2, List.replicate_succ, List.set_cons_zero]
  rfl
theorem szInt64S_ok (A : Option Addr) (n c : Nat) (l : Int) (w : World) (hn : n ≤ 9223372036854775807) (h0 : 0 ≤ l) (h1 : l ≤ 1048576) :
    Calls Try.prog 149 #[.slice A n c, .int .i64 l] w fun e w' => e = .returned (.int .i64 (subSz l n)) ∧ w = w' := by
  go_enter Try.func149, Try.ntmps149
  go_wp2_with fail
  all_goals (go_ret; exact ⟨ret_int (by unfold subSz; split <;> omega), rfl⟩)

/-- a row of integers that is owned reads as one -/
theorem ints_own {w : World} {B : Nat} {e : TypeId} {A : Option Addr} {n c : Nat} {ns : List Int} (h : w.ownsRow B e 1 (.slice A n c) n (ns.map (Value.int .i64))) : IntsAt w A ns := fun hne => by
  have hl : ns.length = n := by have := h.1; simpa using this
  have hp : 0 < n := by rw [← hl]; exact (by cases ns; exact absurd rfl hne; simp)
  obtain ⟨g, cap, hv, _, hg, _⟩ := own_form h hp
  injection hv with hA _ hcap
  subst hA hcap
  refine ⟨g, 0, rfl, hg, fun j m hj => ?_⟩
  have hjl : j < ns.length := (List.getElem?_eq_some_iff.1 hj).1
  rw [Nat.zero_add, h.cellAt j (by omega), List.getElem?_map, hj]
  rfl

def CopyRel (w : World) (ns : List Int) (g : Nat) (i : Value) (wr : World) : Prop :=
  ∃ (k : Nat), k ≤ ns.length ∧ i = .int .i64 k ∧ wr.ownsRow w.heap.size 2 1 (.slice (some ⟨g, 0, none⟩) ns.length ns.length) ns.length ((ns.take k ++ List.replicate (ns.length - k) 0).map (Value.int .i64)) ∧ Below w.heap.size w wr

set_option maxHeartbeats 800000 in
set_option maxRecDepth 100000 in
theorem toInt64S_ok (A : Option Addr) (c : Nat) (ns : List Int) (w : World) (hA : IntsAt w A ns) (hn : ns.length ≤ 1048576) :
    Calls Try.prog 36 #[.slice A ns.length c] w fun e w' => ∃ v, e = .returned v ∧ (∃ g, v = .slice (some ⟨g, 0, none⟩) ns.length ns.length) ∧ w'.ownsRow w.heap.size 2 1 v ns.length (ns.map (Value.int .i64)) ∧ Below w.heap.size w w' := by
  obtain ⟨i0, hi, hz0, hz1, hz2⟩ := info_parts infoI
  have HA := hid hA
  clear hA
  go_enter Try.func36, Try.ntmps36
  go_wp2_with (at_make; refine wpList_make_full _ rfl _ _ _ rfl w.heap.size 2 i0 (.int .i64 0) 1 Try.underlying24 hi hz0 hz1 .i64 .i64 _ _ ns.length rfl rfl rfl rfl (by rw [hz2]; omega) (by unfold maxLen; omega) (Nat.le_refl _) ?_; intro w1 hown1 hg1)
  go_loopw [4] (fun i wr => CopyRel w ns w.heap.size i wr) (fun i _ => ns.length - (intOf i).toNat)
  case atStart =>
    refine ⟨0, Nat.zero_le _, rfl, ?_, (Below.refl _ _).grown hg1 (Nat.le_refl _) (fun k hk => by cases hk)⟩
    have e : ((ns.take 0 ++ List.replicate (ns.length - 0) (0 : Int)).map (Value.int .i64)) = (madeCells (Value.int .i64 0).cells (ns.length * 1)).toList := by
      rw [made_one _ _ rfl]; simp
    rw [e]
    exact hown1
  case round =>
    obtain ⟨k, hk, rfl, hown, hbel⟩ := hrel
    by_cases hkl : k < ns.length
    · obtain ⟨b, o, rfl, hlt, hc⟩ := HA.out (by intro e; rw [e] at hkl; exact absurd hkl (by simp))
      have hcell : wr.cell? ⟨b, o + k, none⟩ = some (.int .i64 ns[k]) := (hbel.cell (p := ⟨b, o + k, none⟩) hlt).trans (hc k _ (List.getElem?_eq_getElem hkl))
      have hold : wr.cell? ⟨w.heap.size, k, none⟩ = some (.int .i64 0) := by
        rw [hown.cellAt k (by omega), List.getElem?_map, copy_at hkl]
        rfl
      have hfr := hown.frozenAt k
      have HC := hid hc
      have HS := hid (hown.stored k (.int .i64 ns[k]))
      clear hc hown
      go_wp2_with fail
      go_roundw
      case rel =>
        refine ⟨k + 1, by omega, by go_num, ?_, hbel.setCell (p := ⟨w.heap.size, k, none⟩) (Nat.le_refl _) _⟩
        have e := HS.out.1
        rw [← List.map_set (f := Value.int .i64), copy_set hkl] at e
        exact e
      case measure => simp [intOf]; omega
    · have hk2 : k = ns.length := by omega
      subst hk2
      have e : (ns.take ns.length ++ List.replicate (ns.length - ns.length) (0 : Int)) = ns := by simp
      rw [e] at hown
      have HO := hid hown
      clear hown e
      go_wp2_with fail
      go_ret
      exact ⟨_, rfl, ⟨_, rfl⟩, HO.out, hbel⟩

theorem below_drewN' {B : Nat} {w w' : World} (h : Below B w w') (n : Nat) : Below B w (w'.drewN n) := ⟨h.os, h.tape, h.output, h.size, h.block⟩

set_option maxHeartbeats 800000 in
set_option maxRecDepth 100000 in
/-- two slices that read alike are alike -/
theorem eqInt64S_same (A A' : Option Addr) (c c' : Nat) (ns : List Int) (w : World) (hA : IntsAt w A ns) (hA' : IntsAt w A' ns) (hn : ns.length ≤ 1048576) :
    Calls Try.prog 13 #[.slice A ns.length c, .slice A' ns.length c'] w fun e w' => e = .returned (.bool true) ∧ Below w.heap.size w w' := by
  have HA := hid hA
  have HA' := hid hA'
  clear hA hA'
  go_enter Try.func13, Try.ntmps13
  go_wp2_with fail
  go_loopw [5] (fun i wr => ∃ k : Nat, k ≤ ns.length ∧ i = .int .i64 k ∧ Below w.heap.size w wr) (fun i _ => ns.length - (intOf i).toNat)
  case atStart => exact ⟨0, Nat.zero_le _, rfl, Below.refl _ _⟩
  case round =>
    obtain ⟨k, hk, rfl, hbel⟩ := hrel
    by_cases hkl : k < ns.length
    · have hne : ns ≠ [] := by intro e; rw [e] at hkl; exact absurd hkl (by simp)
      obtain ⟨b, o, rfl, hlt, hc⟩ := HA.out hne
      obtain ⟨b', o', rfl, hlt', hc'⟩ := HA'.out hne
      have hcell : wr.cell? ⟨b, o + k, none⟩ = some (.int .i64 ns[k]) := (hbel.cell (p := ⟨b, o + k, none⟩) hlt).trans (hc k _ (List.getElem?_eq_getElem hkl))
      have hcell' : wr.cell? ⟨b', o' + k, none⟩ = some (.int .i64 ns[k]) := (hbel.cell (p := ⟨b', o' + k, none⟩) hlt').trans (hc' k _ (List.getElem?_eq_getElem hkl))
      have q0 : (0 : Int) ≤ (k : Int) := by omega
      have q1 : (k : Int) < ns.length := by omega
      clear hc hc' HA HA' hne
      go_wp2_with fail
      go_quiet (fail)
      go_wp2_with fail
      go_roundw
      case rel => exact ⟨k + 1, by omega, by go_num, below_drewN' hbel _⟩
      case measure => simp [intOf]; omega
    · go_wp2_with fail
      go_ret
      exact ⟨rfl, hbel⟩

end Go.Proofs.Ytdbjbkdcmhekfaa
