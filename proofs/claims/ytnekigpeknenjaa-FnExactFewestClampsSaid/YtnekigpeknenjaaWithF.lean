/- WithClamps and its reference. -/
import Derived.Test.YtnekigpeknenjaaClamp
import Derived.Test.YtnekigpeknenjaaClampS
import Derived.Test.YtnekigpeknenjaaVStepS
import Derived.Test.YtnekigpeknenjaaRet
import Derived.Deep.RegionHeld3
namespace Go.Proofs.Ytnekigpeknenjaa
open Go.RowKit
set_option linter.unusedVariables false


noncomputable def fWith (xs : List DStep) (M : Int) : List Int × Int := if stepsB xs = false then ([], 1) else if inB M 0 240 = false then ([], 2) else if clampsTo xs M xs.length = false then ([], 3) else (planTo xs M xs.length, 0)
theorem fWith_small (xs : List DStep) (M : Int) : (fWith xs M).1.length ≤ 12 := by
  unfold fWith
  split
  · simp
  · rename_i h1
    have h := stepsB_iff.1 (by simpa using h1)
    split
    · simp
    · split
      · simp
      · simp only [planTo_len]
        exact h.2
theorem isClamps_any (n : Int) (w : World) : Calls Try.prog 124 #[.int .i64 n] w fun e w' => e = .returned (.bool (inB n 0 240)) ∧ w = w' := by
  go_enter Try.func124, Try.ntmps124
  go_wp2_with (go_at_call 123; refine (within_ok _ _ _ _).mono ?_; rintro e w' ⟨rfl, rfl⟩)
  go_ret
  exact ⟨rfl, rfl⟩


set_option maxHeartbeats 800000 in
set_option maxRecDepth 100000 in
theorem implWith_ok (A : Option Addr) (c : Nat) (xs : List DStep) (M : Int) (w : World) (hA : NestAt 1 hdStep inStep w A xs) (hok : ∀ x ∈ xs, x.ok) (hn : xs.length ≤ 1048576) (hi : ∀ x ∈ xs, x.fIn.length ≤ 1048576) :
    Calls Try.prog 47 #[.slice A xs.length c, .int .i64 M] w (RetIC w (fWith xs M)) := by
  have HA := hid hA
  have HK := hid hok
  have HI := hid hi
  clear hA hok hi
  cases c1 : stepsB xs
  · have HF := hid (show fWith xs M = ([], 1) by unfold fWith; rw [if_pos c1])
    go_enter Try.func47, Try.ntmps47
    go_wp2_with fail
    refine (ValidSteps_ok A c xs _ HA.out HK.out hn HI.out).mono ?_
    rintro e w1 ⟨rfl, hb⟩
    go_wp2_with fail
    go_ret2
    exact RetIC.nil HF.out hb
  cases c2 : inB M 0 240
  · have HF := hid (show fWith xs M = ([], 2) by unfold fWith; rw [if_neg (by rw [c1]; exact fun h => by cases h), if_pos c2])
    go_enter Try.func47, Try.ntmps47
    go_wp2_with fail
    refine (ValidSteps_ok A c xs _ HA.out HK.out hn HI.out).mono ?_
    rintro e w1 ⟨rfl, hb⟩
    go_wp2_with (go_at_call 124; refine (isClamps_any _ _).mono ?_; rintro e w' ⟨rfl, rfl⟩)
    go_ret2
    exact RetIC.nil HF.out hb
  have hM := inB_iff.1 c2
  have HH := hid (stepsB_iff.1 c1)
  cases c3 : clampsTo xs M xs.length
  · have HF := hid (show fWith xs M = ([], 3) by unfold fWith; rw [if_neg (by rw [c1]; exact fun h => by cases h), if_neg (by rw [c2]; exact fun h => by cases h), if_pos c3])
    have HP := hid (show planN xs M = ([], false) by rw [planN, c3]; rfl)
    have C3 := hid c3
    clear c3
    go_enter Try.func47, Try.ntmps47
    go_wp2_with fail
    refine (ValidSteps_ok A c xs _ HA.out HK.out hn HI.out).mono ?_
    rintro e w1 ⟨rfl, hb⟩
    have B1 := hid hb
    clear hb
    go_wp2_with (first | (go_at_call 124; refine (isClamps_any _ _).mono ?_; rintro e w' ⟨rfl, rfl⟩) | (go_at_call 125; refine (planned_ok _ _ xs M _ (HA.out.below B1.out) HH.out.1 HH.out.2 hM.1 hM.2).mono ?_; rintro e w2 ⟨A2, c2, rfl, ho, hb2⟩; rw [HP.out]; have B2 := hid (below_trans B1.out hb2); have O2 := hid ho; clear ho hb2))
    go_ret2
    exact RetIC.nil HF.out B2.out
  have HF := hid (show fWith xs M = (planTo xs M xs.length, 0) by unfold fWith; rw [if_neg (by rw [c1]; exact fun h => by cases h), if_neg (by rw [c2]; exact fun h => by cases h), if_neg (by rw [c3]; exact fun h => by cases h)])
  have HP := hid (show planN xs M = (planTo xs M xs.length, true) by rw [planN, c3]; rfl)
  have C3 := hid c3
  clear c3
  go_enter Try.func47, Try.ntmps47
  go_wp2_with fail
  refine (ValidSteps_ok A c xs _ HA.out HK.out hn HI.out).mono ?_
  rintro e w1 ⟨rfl, hb⟩
  have B1 := hid hb
  clear hb
  go_wp2_with (first | (go_at_call 124; refine (isClamps_any _ _).mono ?_; rintro e w' ⟨rfl, rfl⟩) | (go_at_call 125; refine (planned_ok _ _ xs M _ (HA.out.below B1.out) HH.out.1 HH.out.2 hM.1 hM.2).mono ?_; rintro e w2 ⟨A2, c2, rfl, ho, hb2⟩; rw [HP.out]; have B2 := hid (below_trans B1.out hb2); have O2 := hid ho; clear ho hb2))
  go_ret2
  rw [HP.out] at O2
  exact RetIC.own HF.out (own_mono O2.out B1.out.size) B2.out


set_option maxHeartbeats 800000 in
set_option maxRecDepth 100000 in
theorem specWith_ok (A : Option Addr) (c : Nat) (xs : List DStep) (M : Int) (w : World) (hA : NestAt 1 hdStep inStep w A xs) (hok : ∀ x ∈ xs, x.ok) (hn : xs.length ≤ 1048576) (hi : ∀ x ∈ xs, x.fIn.length ≤ 1048576) :
    Calls Try.prog 46 #[.slice A xs.length c, .int .i64 M] w (RetIC w (fWith xs M)) := by
  have HA := hid hA
  have HK := hid hok
  have HI := hid hi
  clear hA hok hi
  cases c1 : stepsB xs
  · have HF := hid (show fWith xs M = ([], 1) by unfold fWith; rw [if_pos c1])
    go_enter Try.func46, Try.ntmps46
    go_wp2_with fail
    refine (l17Ok_ok A c xs _ HA.out HK.out hn HI.out).mono ?_
    rintro e w1 ⟨rfl, hb⟩
    go_wp2_with fail
    go_ret2
    exact RetIC.nil HF.out hb
  cases c2 : inB M 0 240
  · have HF := hid (show fWith xs M = ([], 2) by unfold fWith; rw [if_neg (by rw [c1]; exact fun h => by cases h), if_pos c2])
    go_enter Try.func46, Try.ntmps46
    go_wp2_with fail
    refine (l17Ok_ok A c xs _ HA.out HK.out hn HI.out).mono ?_
    rintro e w1 ⟨rfl, hb⟩
    go_wp2_with (go_at_call 117; refine (l00In_ok _ _ _ _).mono ?_; rintro e w' ⟨rfl, rfl⟩)
    go_ret2
    exact RetIC.nil HF.out hb
  have hM := inB_iff.1 c2
  have HH := hid (stepsB_iff.1 c1)
  cases c3 : clampsTo xs M xs.length
  · have HF := hid (show fWith xs M = ([], 3) by unfold fWith; rw [if_neg (by rw [c1]; exact fun h => by cases h), if_neg (by rw [c2]; exact fun h => by cases h), if_pos c3])
    have HP := hid (show planN xs M = ([], false) by rw [planN, c3]; rfl)
    have C3 := hid c3
    clear c3
    go_enter Try.func46, Try.ntmps46
    go_wp2_with fail
    refine (l17Ok_ok A c xs _ HA.out HK.out hn HI.out).mono ?_
    rintro e w1 ⟨rfl, hb⟩
    have B1 := hid hb
    clear hb
    go_wp2_with (first | (go_at_call 117; refine (l00In_ok _ _ _ _).mono ?_; rintro e w' ⟨rfl, rfl⟩) | (go_at_call 118; refine (l17Clamps_ok _ _ xs M _ (HA.out.below B1.out) HH.out.1 HH.out.2).mono ?_; rintro e w2 ⟨rfl, hb2⟩; rw [C3.out]; have B2 := hid (below_trans B1.out hb2); clear hb2))
    go_ret2
    exact RetIC.nil HF.out B2.out
  have HF := hid (show fWith xs M = (planTo xs M xs.length, 0) by unfold fWith; rw [if_neg (by rw [c1]; exact fun h => by cases h), if_neg (by rw [c2]; exact fun h => by cases h), if_neg (by rw [c3]; exact fun h => by cases h)])
  have HP := hid (show planN xs M = (planTo xs M xs.length, true) by rw [planN, c3]; rfl)
  have C3 := hid c3
  clear c3
  go_enter Try.func46, Try.ntmps46
  go_wp2_with fail
  refine (l17Ok_ok A c xs _ HA.out HK.out hn HI.out).mono ?_
  rintro e w1 ⟨rfl, hb⟩
  have B1 := hid hb
  clear hb
  go_wp2_with (first | (go_at_call 117; refine (l00In_ok _ _ _ _).mono ?_; rintro e w' ⟨rfl, rfl⟩) | (go_at_call 118; refine (l17Clamps_ok _ _ xs M _ (HA.out.below B1.out) HH.out.1 HH.out.2).mono ?_; rintro e w2 ⟨rfl, hb2⟩; rw [C3.out]; have B2 := hid (below_trans B1.out hb2); clear hb2) | (go_at_call 120; refine (l17Plan_ok _ _ xs M _ (HA.out.below B2.out) HH.out.1 HH.out.2 hM.1 hM.2 C3.out).mono ?_; rintro e w3 ⟨A3, c3, rfl, ho, hno, hb3⟩))
  go_ret2
  exact RetIC.own HF.out (own_mono ho B2.out.size) (below_trans B2.out hb3)

end Go.Proofs.Ytnekigpeknenjaa
