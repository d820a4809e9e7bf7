/- LatestStarts and its reference. -/
import Derived.Test.YtnekigpeknenjaaLate
import Derived.Test.YtnekigpeknenjaaLateS
import Derived.Test.YtnekigpeknenjaaVStepS
import Derived.Test.YtnekigpeknenjaaRet
namespace Go.Proofs.Ytnekigpeknenjaa
open Go.RowKit
set_option linter.unusedVariables false

noncomputable def fLate (xs : List DStep) : List Int × Int := if stepsB xs = false then ([], 1) else (lateTo xs xs.length, 0)
theorem fLate_small (xs : List DStep) : (fLate xs).1.length ≤ 12 := by
  unfold fLate
  split
  · simp
  · rename_i h1
    have h := stepsB_iff.1 (by simpa using h1)
    simp only [lateTo_len]
    exact h.2


set_option maxHeartbeats 800000 in
set_option maxRecDepth 100000 in
theorem implLate_ok (A : Option Addr) (c : Nat) (xs : List DStep) (w : World) (hA : NestAt 1 hdStep inStep w A xs) (hok : ∀ x ∈ xs, x.ok) (hn : xs.length ≤ 1048576) (hi : ∀ x ∈ xs, x.fIn.length ≤ 1048576) :
    Calls Try.prog 42 #[.slice A xs.length c] w (RetIC w (fLate xs)) := by
  have HA := hid hA
  have HK := hid hok
  have HI := hid hi
  clear hA hok hi
  cases c1 : stepsB xs
  · have HF := hid (show fLate xs = ([], 1) by unfold fLate; rw [if_pos c1])
    go_enter Try.func42, Try.ntmps42
    go_wp2_with fail
    refine (ValidSteps_ok A c xs _ HA.out HK.out hn HI.out).mono ?_
    rintro e w1 ⟨rfl, hb⟩
    go_wp2_with fail
    go_ret2
    exact RetIC.nil HF.out hb
  have HF := hid (show fLate xs = (lateTo xs xs.length, 0) by unfold fLate; rw [if_neg (by rw [c1]; exact fun h => by cases h)])
  have HH := hid (stepsB_iff.1 c1)
  go_enter Try.func42, Try.ntmps42
  go_wp2_with fail
  refine (ValidSteps_ok A c xs _ HA.out HK.out hn HI.out).mono ?_
  rintro e w1 ⟨rfl, hb⟩
  have B1 := hid hb
  clear hb
  go_wp2_with (go_at_call 129; refine (latest_ok _ _ xs _ (HA.out.below B1.out) HH.out.1 HH.out.2).mono ?_; rintro e w2 ⟨A2, c2, rfl, ho, hno, hb2⟩)
  go_ret2
  exact RetIC.own HF.out (own_mono ho B1.out.size) (below_trans B1.out hb2)


set_option maxHeartbeats 800000 in
set_option maxRecDepth 100000 in
theorem specLate_ok (A : Option Addr) (c : Nat) (xs : List DStep) (w : World) (hA : NestAt 1 hdStep inStep w A xs) (hok : ∀ x ∈ xs, x.ok) (hn : xs.length ≤ 1048576) (hi : ∀ x ∈ xs, x.fIn.length ≤ 1048576) :
    Calls Try.prog 41 #[.slice A xs.length c] w (RetIC w (fLate xs)) := by
  have HA := hid hA
  have HK := hid hok
  have HI := hid hi
  clear hA hok hi
  cases c1 : stepsB xs
  · have HF := hid (show fLate xs = ([], 1) by unfold fLate; rw [if_pos c1])
    go_enter Try.func41, Try.ntmps41
    go_wp2_with fail
    refine (l17Ok_ok A c xs _ HA.out HK.out hn HI.out).mono ?_
    rintro e w1 ⟨rfl, hb⟩
    go_wp2_with fail
    go_ret2
    exact RetIC.nil HF.out hb
  have HF := hid (show fLate xs = (lateTo xs xs.length, 0) by unfold fLate; rw [if_neg (by rw [c1]; exact fun h => by cases h)])
  have HH := hid (stepsB_iff.1 c1)
  go_enter Try.func41, Try.ntmps41
  go_wp2_with fail
  refine (l17Ok_ok A c xs _ HA.out HK.out hn HI.out).mono ?_
  rintro e w1 ⟨rfl, hb⟩
  have B1 := hid hb
  clear hb
  go_wp2_with (go_at_call 128; refine (l17Late_ok _ _ xs _ (HA.out.below B1.out) HH.out.1 HH.out.2).mono ?_; rintro e w2 ⟨A2, c2, rfl, ho, hno, hb2⟩; rw [late_eq HH.out.1] at ho; rw [late_eq HH.out.1])
  go_ret2
  exact RetIC.own HF.out (own_mono ho B1.out.size) (below_trans B1.out hb2)

end Go.Proofs.Ytnekigpeknenjaa
