/- A step: impl's and spec's test of one. -/
import Derived.Test.YtnekigpeknenjaaHas
import Derived.Test.YtnekigpeknenjaaKeepM
import Derived.Test.YtnekigpeknenjaaRange
import Derived.Test.YtnekigpeknenjaaRises
import Derived.Test.YtnekigpeknenjaaNStep
namespace Go.Proofs.Ytnekigpeknenjaa
open Go.RowKit
set_option linter.unusedVariables false

noncomputable def stepB (xId : ByteArray) (x1 x2 : Int) (ns : List Int) : Bool := nameB xId && (inB x1 1 200 && (inB x2 0 20 && risesB ns 0 11))

set_option maxHeartbeats 1600000 in
set_option maxRecDepth 100000 in
theorem stepValid_ok (xId : ByteArray) (x1 x2 : Int) (A : Option Addr) (c : Nat) (ns : List Int) (w : World) (hsId : xId.size ≤ maxLen) (hA : IntsAt w A ns) (hn : ns.length ≤ maxLen) :
    Calls Try.prog 179 #[.agg #[.string xId, .int .i64 x1, .int .i64 x2, .slice A ns.length c]] w fun e w' => e = .returned (.bool (stepB xId x1 x2 ns)) ∧ Below w.heap.size w w' := by
  have HA := hid hA
  have hn2 : ns.length ≤ 9223372036854775807 := hn
  clear hA
  go_enter Try.func179, Try.ntmps179
  go_wp2_with fail
  go_loop [8] (fun i => ∃ k : Nat, k ≤ ns.length ∧ i = .int .i64 k ∧ RisesTo ns 0 11 k) (fun i => ns.length - (intOf i).toNat)
  case atStart => exact ⟨0, Nat.zero_le _, rfl, RisesTo.zero _ _ _⟩
  case round =>
    obtain ⟨k, hk, rfl, hall⟩ := hrel
    have HR := hid hall
    clear hall
    by_cases hkl : k < ns.length
    · have hne : ns ≠ [] := by intro e; rw [e] at hkl; exact absurd hkl (by simp)
      obtain ⟨b, o, rfl, hlt, hc⟩ := HA.out hne
      have hcell : w.cell? ⟨b, o + k, none⟩ = some (.int .i64 ns[k]) := hc k _ (List.getElem?_eq_getElem hkl)
      have HC := hid hc
      clear hc HA hne
      cases c1 : inB ns[k] 0 11
      · have HN := hid (show stepB xId x1 x2 ns = false by simp [stepB, norise_in hkl c1])
        go_wp2_with (go_at_call 123; refine (within_ok _ _ _ _).mono ?_; rintro e w' ⟨rfl, rfl⟩)
        go_ret
        exact ⟨ret_bool HN.out.symm, below_alloc _ _⟩
      · rcases Nat.lt_or_ge k 1 with hk0 | hk0
        · have HS := hid (HR.out.succ hkl c1 (fun h => absurd h (by omega)))
          have e0 : decide (0 < k) = false := by simp; omega
          go_wp2_with (go_at_call 123; refine (within_ok _ _ _ _).mono ?_; rintro e w' ⟨rfl, rfl⟩)
          go_round
          case rel => exact ⟨k + 1, by omega, by go_num, HS.out⟩
          case measure => simp [intOf]; omega
        · have hcell2 : w.cell? ⟨b, o + (k - 1), none⟩ = some (.int .i64 ns[k - 1]) := HC.out (k - 1) _ (List.getElem?_eq_getElem (by omega))
          have e0 : decide (0 < k) = true := by simp; omega
          have e3 : (0 : Int) ≤ (k : Int) - 1 := by omega
          have e4 : ((k : Int) - 1).toNat = k - 1 := by omega
          have e5 : (k : Int) - 1 < ns.length := by omega
          by_cases c2 : ns[k - 1] < ns[k]
          · have HS := hid (HR.out.succ hkl c1 (fun _ => c2))
            have d2 : decide (ns[k] ≤ ns[k - 1]) = false := by simp; omega
            go_wp2_with (go_at_call 123; refine (within_ok _ _ _ _).mono ?_; rintro e w' ⟨rfl, rfl⟩)
            go_round
            case rel => exact ⟨k + 1, by omega, by go_num, HS.out⟩
            case measure => simp [intOf]; omega
          · have HN := hid (show stepB xId x1 x2 ns = false by simp [stepB, norise_up (lo := 0) (hi := 11) hkl hk0 (by omega)])
            have d2 : decide (ns[k] ≤ ns[k - 1]) = true := by simp; omega
            go_wp2_with (go_at_call 123; refine (within_ok _ _ _ _).mono ?_; rintro e w' ⟨rfl, rfl⟩)
            go_ret
            exact ⟨ret_bool HN.out.symm, below_alloc _ _⟩
    · have hk2 : k = ns.length := by omega
      subst hk2
      have HN := hid (show stepB xId x1 x2 ns = (nameB xId && (inB x1 1 200 && inB x2 0 20)) by simp [stepB, risesB_true HR.out])
      go_wp2_with (first | (go_at_call 192; refine (IsName_ok _ _ (by assumption)).mono ?_; rintro e w' ⟨rfl, rfl⟩) | (go_at_call 123; refine (within_ok _ _ _ _).mono ?_; rintro e w' ⟨rfl, rfl⟩))
      all_goals (go_ret; exact ⟨ret_bool (by rw [HN.out]; simp [*]), below_alloc _ _⟩)

set_option maxHeartbeats 800000 in
set_option maxRecDepth 100000 in
theorem stepOne_ok (xId : ByteArray) (x1 x2 : Int) (A : Option Addr) (c : Nat) (ns : List Int) (b o : Nat) (w : World) (hsId : xId.size ≤ maxLen) (hA : IntsAt w A ns) (hn : ns.length ≤ maxLen) (k0 : w.cell? ⟨b, o, none⟩ = some (.string xId)) (k1 : w.cell? ⟨b, o + 1, none⟩ = some (.int .i64 x1)) (k2 : w.cell? ⟨b, o + 2, none⟩ = some (.int .i64 x2)) (k3 : w.cell? ⟨b, o + 3, none⟩ = some (.slice A ns.length c)) :
    Calls Try.prog 175 #[.pointer (some ⟨b, o, none⟩)] w fun e w' => e = .returned (.bool (stepB xId x1 x2 ns)) ∧ Below w.heap.size w w' := by
  have HA := hid hA
  clear hA
  go_enter Try.func175, Try.ntmps175
  go_wp2_with (first | (go_at_call 190; refine (l01Name_ok _ _ (by assumption)).mono ?_; rintro e w' ⟨rfl, rfl⟩) | (go_at_call 117; refine (l00In_ok _ _ _ _).mono ?_; rintro e w' ⟨rfl, rfl⟩) | (go_at_call 176; refine (l00Rises_ok _ _ _ _ _ _ HA.out hn).mono ?_; rintro e w1 ⟨rfl, hb⟩))
  all_goals (go_ret; exact ⟨ret_bool (by simp [stepB, *]), by first | exact Below.refl _ _ | exact hb⟩)

end Go.Proofs.Ytnekigpeknenjaa
