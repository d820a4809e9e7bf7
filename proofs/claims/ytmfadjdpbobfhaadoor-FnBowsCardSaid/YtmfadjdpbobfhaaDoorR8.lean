/- The laws' numbers out of bytes. -/
import Derived.Test.YtmfadjdpbobfhaaDoorDrw
namespace Go.Proofs.YtmfadjdpbobfhaaDoor
open Go.RowKit
set_option linter.unusedVariables false

set_option maxHeartbeats 1600000 in
set_option maxRecDepth 100000 in
theorem r8Long_ok (A : Option Addr) (c n : Nat) (B : Option Addr) (d m : Nat) (w : World) (hn : n ≤ maxLen) (hm : m ≤ maxLen) :
    Calls Tryd.prog 33 #[.slice A n c, .slice B m d] w fun e w' => e = .returned (.bool (decide (1048576 < n) || decide (1048576 < m))) ∧ w = w' := by
  unfold maxLen at hn hm
  cases h1 : decide (1048576 < n)
  · have q1 : ¬ (1048576 : Int) < (n : Int) := by have := of_decide_eq_false h1; omega
    cases h2 : decide (1048576 < m)
    · have q2 : ¬ (1048576 : Int) < (m : Int) := by have := of_decide_eq_false h2; omega
      clear h1 h2
      go_enter Tryd.func33, Tryd.ntmps33
      go_wp2_with fail
      go_ret
      exact ⟨rfl, rfl⟩
    · have q2 : (1048576 : Int) < (m : Int) := by have := of_decide_eq_true h2; omega
      clear h1 h2
      go_enter Tryd.func33, Tryd.ntmps33
      go_wp2_with fail
      go_ret
      exact ⟨rfl, rfl⟩
  · have q1 : (1048576 : Int) < (n : Int) := by have := of_decide_eq_true h1; omega
    clear h1
    go_enter Tryd.func33, Tryd.ntmps33
    go_wp2_with fail
    go_ret
    exact ⟨rfl, rfl⟩

set_option maxHeartbeats 1600000 in
set_option maxRecDepth 100000 in
theorem r8At_ok (A : Option Addr) (c : Nat) (ns : List Int) (k : Nat) (m : Int) (w : World) (hA : BytesAt w A ns) (hB : ByteIn ns) (hl : ns.length ≤ 1048576) (hm : 1 < m) (hm2 : m ≤ 60000) :
    Calls Tryd.prog 43 #[.slice A ns.length c, .int .i64 (k : Int), .int .i64 m] w fun e w' => (∃ r : Int, e = .returned (.int .i64 r) ∧ 0 ≤ r ∧ r < m) ∧ w = w' := by
  have e1 : ¬ m ≤ 1 := by omega
  have e0 : ¬ m = 0 := by omega
  have HM := hid (show ∀ x : Int, 0 ≤ x % m ∧ x % m < m from fun x => ⟨Int.emod_nonneg _ e0, Int.emod_lt_of_pos _ (by omega)⟩)
  by_cases hk : k < ns.length
  · obtain ⟨b1, o1, rfl, hb1, hc1⟩ := hA.at hk
    obtain ⟨z, hz⟩ : ∃ z, ns[k] = z := ⟨_, rfl⟩
    have hz1 := hB ns[k] (List.getElem_mem hk)
    rw [hz] at hz1 hc1
    obtain ⟨z0, z1⟩ := hz1
    have q3 : ¬ (ns.length : Int) ≤ (k : Int) := by omega
    have q4 : (0 : Int) ≤ (k : Int) := by omega
    have q5 : (k : Int) < (ns.length : Int) := by omega
    clear hz hA hB hb1
    go_enter Tryd.func43, Tryd.ntmps43
    go_wp2_with fail
    go_ret
    exact ⟨⟨_, rfl, HM.out _⟩, rfl⟩
  · have q3 : (ns.length : Int) ≤ (k : Int) := by omega
    clear hA hB
    go_enter Tryd.func43, Tryd.ntmps43
    go_wp2_with fail
    go_ret
    exact ⟨⟨_, rfl, by omega, by omega⟩, rfl⟩

set_option maxHeartbeats 1600000 in
set_option maxRecDepth 100000 in
theorem r8Wide_ok (A : Option Addr) (c : Nat) (ns : List Int) (k : Nat) (k1 : Int) (m : Int) (w : World) (hA : BytesAt w A ns) (hB : ByteIn ns) (hl : ns.length ≤ 1048576) (hk : k ≤ 100000) (hk1 : k1 = (k : Int)) (hm : 1 < m) (hm2 : m ≤ 60000) :
    Calls Tryd.prog 41 #[.slice A ns.length c, .int .i64 k1, .int .i64 m] w fun e w' => (∃ r : Int, e = .returned (.int .i64 r) ∧ 0 ≤ r ∧ r < m) ∧ w = w' := by
  subst hk1
  have HA := hid hA
  have HB := hid hB
  have e1 : ¬ m ≤ 1 := by omega
  have e0 : ¬ m = 0 := by omega
  have HM := hid (show ∀ x : Int, 0 ≤ x % m ∧ x % m < m from fun x => ⟨Int.emod_nonneg _ e0, Int.emod_lt_of_pos _ (by omega)⟩)
  clear hA hB
  go_enter Tryd.func41, Tryd.ntmps41
  go_wp2_with fail
  refine (r8At_ok A c ns k 256 _ HA.out HB.out hl (by omega) (by omega)).mono ?_
  rintro e w1 ⟨⟨r, rfl, r0, r1⟩, rfl⟩
  go_wp2_with fail
  refine (r8At_ok A c ns (k + 1) 256 _ HA.out HB.out hl (by omega) (by omega)).mono ?_
  rintro e w2 ⟨⟨r2, rfl, r20, r21⟩, rfl⟩
  go_wp2_with fail
  go_ret
  exact ⟨⟨_, rfl, HM.out _⟩, rfl⟩

end Go.Proofs.YtmfadjdpbobfhaaDoor
