/- Colours: three numbers from 0 to 255. -/
import Derived.Test.YtdbjbkdcmhekfaaInts
import Derived.Test.YtdbjbkdcmhekfaaRange
import Derived.Test.YtdbjbkdcmhekfaaHas
namespace Go.Proofs.Ytdbjbkdcmhekfaa
open Go.RowKit
set_option linter.unusedVariables false

def colB (ns : List Int) : Bool := ns.all (fun n => inB n 0 255) && decide (ns.length = 3)
def AllInTo (ns : List Int) (lo hi : Int) (k : Nat) : Prop := ∀ j (h : j < ns.length), j < k → inB ns[j] lo hi = true
theorem AllInTo.zero (ns : List Int) (lo hi : Int) : AllInTo ns lo hi 0 := fun _ _ h => absurd h (by omega)
theorem AllInTo.succ {ns : List Int} {lo hi : Int} {k : Nat} (h : AllInTo ns lo hi k) (hk : k < ns.length) (h1 : inB ns[k] lo hi = true) : AllInTo ns lo hi (k + 1) := by
  intro j hj hjk
  rcases Nat.lt_or_ge j k with h3 | h3
  · exact h j hj h3
  · have e : j = k := by omega
    subst e; exact h1
theorem colB_iff {ns : List Int} : colB ns = true ↔ (∀ n ∈ ns, 0 ≤ n ∧ n ≤ 255) ∧ ns.length = 3 := by
  simp only [colB, Bool.and_eq_true, List.all_eq_true, decide_eq_true_eq, inB_iff]
theorem nocol_at {ns : List Int} {k : Nat} (hk : k < ns.length) (h : inB ns[k] 0 255 = false) : colB ns = false := by
  cases e : colB ns
  · rfl
  · have := inB_iff.2 ((colB_iff.1 e).1 _ (List.getElem_mem hk))
    simp [h] at this
theorem col_end {ns : List Int} (h : AllInTo ns 0 255 ns.length) : ((ns.length : Int) == 3) = colB ns := by
  rw [Bool.eq_iff_iff, colB_iff, beq_iff_eq]
  constructor
  · intro h3
    refine ⟨fun n hn => ?_, by omega⟩
    obtain ⟨j, hj, rfl⟩ := List.getElem_of_mem hn
    exact inB_iff.1 (h j hj hj)
  · rintro ⟨_, h3⟩; omega

set_option maxHeartbeats 800000 in
set_option maxRecDepth 100000 in
theorem isColour_ok (A : Option Addr) (c : Nat) (ns : List Int) (w : World) (hA : IntsAt w A ns) (hn : ns.length ≤ 9223372036854775807) :
    Calls Try.prog 101 #[.slice A ns.length c] w fun e w' => e = .returned (.bool (colB ns)) ∧ Below w.heap.size w w' := by
  have HA := hid hA
  clear hA
  go_enter Try.func101, Try.ntmps101
  go_wp2_with fail
  go_loop [7] (fun i => ∃ k : Nat, k ≤ ns.length ∧ i = .int .i64 k ∧ AllInTo ns 0 255 k) (fun i => ns.length - (intOf i).toNat)
  case atStart => exact ⟨0, Nat.zero_le _, rfl, AllInTo.zero _ _ _⟩
  case round =>
    obtain ⟨k, hk, rfl, hall⟩ := hrel
    have HR := hid hall
    clear hall
    by_cases hkl : k < ns.length
    · obtain ⟨b, o, rfl, hlt, hc⟩ := HA.out (by intro e; rw [e] at hkl; exact absurd hkl (by simp))
      have hcell : w.cell? ⟨b, o + k, none⟩ = some (.int .i64 ns[k]) := hc k _ (List.getElem?_eq_getElem hkl)
      clear hc HA
      cases c1 : inB ns[k] 0 255
      · have HN := hid (nocol_at hkl c1)
        go_wp2_with (go_at_call 73; refine (within_ok _ _ _ _).mono ?_; rintro e w' ⟨rfl, rfl⟩)
        go_ret
        exact ⟨ret_bool HN.out.symm, Below.refl _ _⟩
      · have HS := hid (HR.out.succ hkl c1)
        go_wp2_with (go_at_call 73; refine (within_ok _ _ _ _).mono ?_; rintro e w' ⟨rfl, rfl⟩)
        go_round
        case rel => exact ⟨k + 1, by omega, by go_num, HS.out⟩
        case measure => simp [intOf]; omega
    · have hk2 : k = ns.length := by omega
      subst hk2
      have HN := hid (col_end HR.out)
      go_wp2_with fail
      go_ret
      exact ⟨ret_bool HN.out, Below.refl _ _⟩

set_option maxHeartbeats 800000 in
set_option maxRecDepth 100000 in
theorem l13Colour_ok (A : Option Addr) (c : Nat) (ns : List Int) (w : World) (hA : IntsAt w A ns) (hn : ns.length ≤ 9223372036854775807) :
    Calls Try.prog 96 #[.slice A ns.length c] w fun e w' => e = .returned (.bool (colB ns)) ∧ Below w.heap.size w w' := by
  have HA := hid hA
  clear hA
  go_enter Try.func96, Try.ntmps96
  go_wp2_with fail
  go_loop [3] (fun i => ∃ k : Nat, k ≤ ns.length ∧ i = .int .i64 k ∧ AllInTo ns 0 255 k) (fun i => ns.length - (intOf i).toNat)
  case atStart => exact ⟨0, Nat.zero_le _, rfl, AllInTo.zero _ _ _⟩
  case round =>
    obtain ⟨k, hk, rfl, hall⟩ := hrel
    have HR := hid hall
    clear hall
    by_cases hkl : k < ns.length
    · obtain ⟨b, o, rfl, hlt, hc⟩ := HA.out (by intro e; rw [e] at hkl; exact absurd hkl (by simp))
      have hcell : w.cell? ⟨b, o + k, none⟩ = some (.int .i64 ns[k]) := hc k _ (List.getElem?_eq_getElem hkl)
      clear hc HA
      cases c1 : inB ns[k] 0 255
      · have HN := hid (nocol_at hkl c1)
        go_wp2_with (go_at_call 69; refine (l00In_ok _ _ _ _).mono ?_; rintro e w' ⟨rfl, rfl⟩)
        go_ret
        exact ⟨ret_bool HN.out.symm, Below.refl _ _⟩
      · have HS := hid (HR.out.succ hkl c1)
        go_wp2_with (go_at_call 69; refine (l00In_ok _ _ _ _).mono ?_; rintro e w' ⟨rfl, rfl⟩)
        go_round
        case rel => exact ⟨k + 1, by omega, by go_num, HS.out⟩
        case measure => simp [intOf]; omega
    · have hk2 : k = ns.length := by omega
      subst hk2
      have HN := hid (col_end HR.out)
      go_wp2_with fail
      go_ret
      exact ⟨ret_bool HN.out, Below.refl _ _⟩

end Go.Proofs.Ytdbjbkdcmhekfaa
