/- Rising numbers within bounds: spec's l00Rises. -/
import Derived.Test.YtnekigpeknenjaaInts
import Derived.Test.YtnekigpeknenjaaRange
import Derived.Test.YtnekigpeknenjaaHas
namespace Go.Proofs.Ytnekigpeknenjaa
open Go.RowKit
set_option linter.unusedVariables false

/-- the first k numbers rise within bounds -/
def RisesTo (ns : List Int) (lo hi : Int) (k : Nat) : Prop := ∀ j (h : j < ns.length), j < k → inB ns[j] lo hi = true ∧ (0 < j → ns[j - 1] < ns[j])
noncomputable def risesB (ns : List Int) (lo hi : Int) : Bool := @decide (RisesTo ns lo hi ns.length) (Classical.propDecidable _)
theorem risesB_true {ns : List Int} {lo hi : Int} (h : RisesTo ns lo hi ns.length) : risesB ns lo hi = true := by simp [risesB, h]
theorem risesB_iff {ns : List Int} {lo hi : Int} : risesB ns lo hi = true ↔ RisesTo ns lo hi ns.length := by simp [risesB]
theorem risesB_false {ns : List Int} {lo hi : Int} (h : ¬ RisesTo ns lo hi ns.length) : risesB ns lo hi = false := by simp [risesB, h]
theorem RisesTo.zero (ns : List Int) (lo hi : Int) : RisesTo ns lo hi 0 := fun _ _ h => absurd h (by omega)
theorem RisesTo.succ {ns : List Int} {lo hi : Int} {k : Nat} (h : RisesTo ns lo hi k) (hk : k < ns.length) (h1 : inB ns[k] lo hi = true) (h2 : 0 < k → ns[k - 1] < ns[k]) : RisesTo ns lo hi (k + 1) := by
  intro j hj hjk
  rcases Nat.lt_or_ge j k with h3 | h3
  · exact h j hj h3
  · have e : j = k := by omega
    subst e; exact ⟨h1, h2⟩
theorem norise_in {ns : List Int} {lo hi : Int} {k : Nat} (hk : k < ns.length) (h : inB ns[k] lo hi = false) : risesB ns lo hi = false := risesB_false fun hr => by have := (hr k hk hk).1; simp [h] at this
theorem norise_up {ns : List Int} {lo hi : Int} {k : Nat} (hk : k < ns.length) (h0 : 0 < k) (h : ns[k] ≤ ns[k - 1]) : risesB ns lo hi = false := risesB_false fun hr => by have := (hr k hk hk).2 h0; omega
/-- rising numbers within 0 .. 11 are few -/
theorem RisesTo.above {ns : List Int} {lo hi : Int} (h : RisesTo ns lo hi ns.length) : ∀ j (hj : j < ns.length), lo + j ≤ ns[j]
  | 0, hj => by have := (inB_iff.1 (h 0 hj hj).1).1; simpa using this
  | j + 1, hj => by
    have h1 := RisesTo.above h j (by omega)
    have h2 := (h (j + 1) hj hj).2 (by omega)
    simp only [Nat.add_sub_cancel] at h2
    omega
theorem rises_length {ns : List Int} {lo hi : Int} (h : risesB ns lo hi = true) (hh : lo ≤ hi + 1) : (ns.length : Int) ≤ hi - lo + 1 := by
  have hr := risesB_iff.1 h
  rcases Nat.eq_zero_or_pos ns.length with h0 | h0
  · rw [h0]; simp; omega
  · have h1 := hr.above (ns.length - 1) (by omega)
    have h2 := (inB_iff.1 (hr (ns.length - 1) (by omega) (by omega)).1).2
    omega
theorem rises_mem {ns : List Int} {lo hi : Int} (h : risesB ns lo hi = true) : ∀ n ∈ ns, lo ≤ n ∧ n ≤ hi := by
  intro n hn
  obtain ⟨j, hj, rfl⟩ := List.getElem_of_mem hn
  exact inB_iff.1 (risesB_iff.1 h j hj hj).1

set_option maxHeartbeats 1600000 in
set_option maxRecDepth 100000 in
theorem l00Rises_ok (A : Option Addr) (c : Nat) (ns : List Int) (lo hi : Int) (w : World) (hA : IntsAt w A ns) (hn : ns.length ≤ 9223372036854775807) :
    Calls Try.prog 176 #[.slice A ns.length c, .int .i64 lo, .int .i64 hi] w fun e w' => e = .returned (.bool (risesB ns lo hi)) ∧ Below w.heap.size w w' := by
  have HA := hid hA
  clear hA
  go_enter Try.func176, Try.ntmps176
  go_wp2_with fail
  go_loopw [7] (fun i wr => ∃ k : Nat, k ≤ ns.length ∧ i = .int .i64 k ∧ RisesTo ns lo hi k ∧ Below w.heap.size w wr) (fun i _ => ns.length - (intOf i).toNat)
  case atStart => exact ⟨0, Nat.zero_le _, rfl, RisesTo.zero _ _ _, Below.refl _ _⟩
  case round =>
    obtain ⟨k, hk, rfl, hall, hbel⟩ := hrel
    have HR := hid hall
    clear hall
    by_cases hkl : k < ns.length
    · have hne : ns ≠ [] := by intro e; rw [e] at hkl; exact absurd hkl (by simp)
      obtain ⟨b, o, rfl, hlt, hc⟩ := HA.out hne
      have hcell : wr.cell? ⟨b, o + k, none⟩ = some (.int .i64 ns[k]) := (hbel.cell (p := ⟨b, o + k, none⟩) hlt).trans (hc k _ (List.getElem?_eq_getElem hkl))
      have q0 : (0 : Int) ≤ (k : Int) := by omega
      have q1 : (k : Int) < ns.length := by omega
      have HC := hid hc
      clear hc HA hne
      cases c1 : inB ns[k] lo hi
      · have HN := hid (norise_in hkl c1)
        go_wp2_with fail
        go_quiet ((go_at_call 117; with_reducible exact quiet_left (l00In_eq c1 _)))
        go_wp2_with fail
        go_ret
        exact ⟨ret_bool HN.out.symm, below_drewN' hbel _⟩
      · rcases Nat.lt_or_ge k 1 with hk0 | hk0
        · have HS := hid (HR.out.succ hkl c1 (fun h => absurd h (by omega)))
          have e0 : decide (0 < k) = false := by simp; omega
          go_wp2_with fail
          go_quiet ((go_at_call 117; with_reducible exact quiet_left (l00In_eq c1 _)))
          go_wp2_with fail
          go_roundw
          case rel => exact ⟨k + 1, by omega, by go_num, HS.out, below_drewN' hbel _⟩
          case measure => simp [intOf]; omega
        · have hcell2 : wr.cell? ⟨b, o + (k - 1), none⟩ = some (.int .i64 ns[k - 1]) := (hbel.cell (p := ⟨b, o + (k - 1), none⟩) hlt).trans (HC.out (k - 1) _ (List.getElem?_eq_getElem (by omega)))
          have e0 : decide (0 < k) = true := by simp; omega
          have e2 : IntKind.i64.wrap ((k : Int) - 1) = (k : Int) - 1 := IntWalk.i64_in _ (by omega)
          have e3 : (0 : Int) ≤ (k : Int) - 1 := by omega
          have e4 : ((k : Int) - 1).toNat = k - 1 := by omega
          have e5 : (k : Int) - 1 < ns.length := by omega
          by_cases c2 : ns[k - 1] < ns[k]
          · have HS := hid (HR.out.succ hkl c1 (fun _ => c2))
            have d2 : decide (ns[k] ≤ ns[k - 1]) = false := by simp; omega
            go_wp2_with fail
            go_quiet ((go_at_call 117; with_reducible exact quiet_left (l00In_eq c1 _)))
            go_wp2_with fail
            go_roundw
            case rel => exact ⟨k + 1, by omega, by go_num, HS.out, below_drewN' hbel _⟩
            case measure => simp [intOf]; omega
          · have HN := hid (norise_up (lo := lo) (hi := hi) hkl hk0 (by omega))
            have d2 : decide (ns[k] ≤ ns[k - 1]) = true := by simp; omega
            go_wp2_with fail
            go_quiet ((go_at_call 117; with_reducible exact quiet_left (l00In_eq c1 _)))
            go_wp2_with fail
            go_ret
            exact ⟨ret_bool HN.out.symm, below_drewN' hbel _⟩
    · have hk2 : k = ns.length := by omega
      subst hk2
      have HN := hid (risesB_true HR.out)
      go_wp2_with fail
      go_ret
      exact ⟨ret_bool HN.out.symm, hbel⟩

end Go.Proofs.Ytnekigpeknenjaa
