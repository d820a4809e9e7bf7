/- FewestClamps and its reference. -/
import Derived.Test.YtnekigpeknenjaaWithF
import Derived.Deep.RegionHeld3
namespace Go.Proofs.Ytnekigpeknenjaa
open Go.RowKit
set_option linter.unusedVariables false


def RetN2 (w : World) (r : Int × Int) (e : Ending) (w' : World) : Prop := e = .returned (.tuple #[.int .i64 r.1, .int .i64 r.2]) ∧ Below w.heap.size w w'
theorem RetN2.mk {w w' : World} {r : Int × Int} {a c : Int} (h : r = (a, c)) (hb : Below w.heap.size w w') : RetN2 w r (.returned (.tuple #[.int .i64 a, .int .i64 c])) w' := by
  subst h
  exact ⟨rfl, hb⟩
noncomputable def fFew (xs : List DStep) (H : Int) : Int × Int := if stepsB xs = false then (0, 1) else if inB H 0 2400 = false then (0, 2) else fewF (fitsN xs H) 0 241


set_option maxHeartbeats 1600000 in
set_option maxRecDepth 100000 in
theorem implFew_ok (A : Option Addr) (c : Nat) (xs : List DStep) (H : Int) (w : World) (hA : NestAt 1 hdStep inStep w A xs) (hok : ∀ x ∈ xs, x.ok) (hn : xs.length ≤ 1048576) (hi : ∀ x ∈ xs, x.fIn.length ≤ 1048576) :
    Calls Try.prog 39 #[.slice A xs.length c, .int .i64 H] w (RetN2 w (fFew xs H)) := by
  have HA := hid hA
  have HK := hid hok
  have HI := hid hi
  clear hA hok hi
  cases c1 : stepsB xs
  · have HF := hid (show fFew xs H = (0, 1) by unfold fFew; rw [if_pos c1])
    go_enter Try.func39, Try.ntmps39
    go_wp2_with fail
    refine (ValidSteps_ok A c xs _ HA.out HK.out hn HI.out).mono ?_
    rintro e w1 ⟨rfl, hb⟩
    go_wp2_with fail
    go_ret2
    exact RetN2.mk HF.out hb
  cases c2 : inB H 0 2400
  · have HF := hid (show fFew xs H = (0, 2) by unfold fFew; rw [if_neg (by rw [c1]; exact fun h => by cases h), if_pos c2])
    go_enter Try.func39, Try.ntmps39
    go_wp2_with fail
    refine (ValidSteps_ok A c xs _ HA.out HK.out hn HI.out).mono ?_
    rintro e w1 ⟨rfl, hb⟩
    go_wp2_with (go_at_call 123; refine (within_ok _ _ _ _).mono ?_; rintro e w' ⟨rfl, rfl⟩)
    go_ret2
    exact RetN2.mk HF.out hb
  have HF := hid (show fFew xs H = fewF (fitsN xs H) 0 241 by unfold fFew; rw [if_neg (by rw [c1]; exact fun h => by cases h), if_neg (by rw [c2]; exact fun h => by cases h)])
  have hH := inB_iff.1 c2
  have HH := hid (stepsB_iff.1 c1)
  go_enter Try.func39, Try.ntmps39
  go_wp2_with fail
  refine (ValidSteps_ok A c xs _ HA.out HK.out hn HI.out).mono ?_
  rintro e w1 ⟨rfl, hb⟩
  have B1 := hid hb
  clear hb
  go_wp2_with (go_at_call 123; refine (within_ok _ _ _ _).mono ?_; rintro e w' ⟨rfl, rfl⟩)
  go_loopw [6] (fun n wr => ∃ m : Nat, m ≤ 241 ∧ n = .int .i64 m ∧ fFew xs H = fewF (fitsN xs H) m (241 - m) ∧ Below w.heap.size w wr) (fun n _ => (241 - intOf n).toNat)
  case atStart => exact ⟨0, by omega, rfl, by simpa using HF.out, B1.out⟩
  case round =>
    obtain ⟨m, hm, rfl, hff, hbel⟩ := hrel
    have HFF := hid hff
    have BW := hid hbel
    clear hff hbel
    by_cases hml : m < 241
    · have hin : inB (m : Int) 0 240 = true := inB_iff.2 ⟨by omega, by omega⟩
      have hle : (m : Int) ≤ 240 := by omega
      cases c3 : clampsTo xs m xs.length
      · have HNX := hid (show fFew xs H = fewF (fitsN xs H) ((m + 1 : Nat) : Int) (241 - (m + 1)) by
          rw [HFF.out, show 241 - m = (241 - (m + 1)) + 1 by omega, fewF_no (by rw [fitsN, c3, Bool.false_and])]
          congr 1)
        have HP := hid (show planN xs m = ([], false) by rw [planN, c3]; rfl)
        have C3 := hid c3
        clear c3
        go_wp2_with (first | (go_at_call 124; refine (isClamps_any _ _).mono ?_; rintro e w' ⟨rfl, rfl⟩) | (go_at_call 125; refine (planned_ok _ _ xs m _ (HA.out.below BW.out) HH.out.1 HH.out.2 (by omega) hle).mono ?_; rintro e w2 ⟨A2, c2, rfl, ho, hb2⟩; rw [HP.out]; rw [HP.out] at ho; have B2 := hid (below_trans BW.out hb2); have O2 := hid ho; clear ho hb2))
        go_roundw
        case rel => exact ⟨m + 1, by omega, by go_num, HNX.out, B2.out⟩
        case measure => simp [intOf]; omega
      · have HP := hid (show planN xs m = (planTo xs m xs.length, true) by rw [planN, c3]; rfl)
        have HBD := hid (plan_bd HH.out.1 _ (Nat.le_refl _) c3)
        have LK := hid (planTo_len xs m xs.length)
        have EB := endTo_bd HH.out.1 HBD.out LK.out _ (Nat.le_refl _)
        by_cases hen : endTo xs (planTo xs m xs.length) xs.length ≤ H
        · have HYES := hid (show fFew xs H = ((m : Int), 0) by
            rw [HFF.out, show 241 - m = (241 - (m + 1)) + 1 by omega, fewF_yes (by rw [fitsN, c3, decide_eq_true hen]; rfl)])
          have C3 := hid c3
          clear c3
          go_wp2_with (first | (go_at_call 124; refine (isClamps_any _ _).mono ?_; rintro e w' ⟨rfl, rfl⟩) | (go_at_call 126; refine (ended_ok _ _ xs A2 c2 (planTo xs m xs.length) _ (HA.out.below B2.out) HH.out.1 HH.out.2 (ints_own O2.out) LK.out HBD.out).mono ?_; rintro e w4 ⟨rfl, hb4⟩; have B4 := hid (below_trans B2.out hb4); clear hb4) | (go_at_call 125; refine (planned_ok _ _ xs m _ (HA.out.below BW.out) HH.out.1 HH.out.2 (by omega) hle).mono ?_; rintro e w2 ⟨A2, c2, rfl, ho, hb2⟩; rw [HP.out]; rw [HP.out] at ho; have B2 := hid (below_trans BW.out hb2); have O2 := hid ho; clear ho hb2))
          go_ret2
          exact RetN2.mk HYES.out B4.out
        · have HNX := hid (show fFew xs H = fewF (fitsN xs H) ((m + 1 : Nat) : Int) (241 - (m + 1)) by
            rw [HFF.out, show 241 - m = (241 - (m + 1)) + 1 by omega, fewF_no (by rw [fitsN, decide_eq_false hen, Bool.and_false])]
            congr 1)
          have C3 := hid c3
          clear c3
          go_wp2_with (first | (go_at_call 124; refine (isClamps_any _ _).mono ?_; rintro e w' ⟨rfl, rfl⟩) | (go_at_call 126; refine (ended_ok _ _ xs A2 c2 (planTo xs m xs.length) _ (HA.out.below B2.out) HH.out.1 HH.out.2 (ints_own O2.out) LK.out HBD.out).mono ?_; rintro e w4 ⟨rfl, hb4⟩; have B4 := hid (below_trans B2.out hb4); clear hb4) | (go_at_call 125; refine (planned_ok _ _ xs m _ (HA.out.below BW.out) HH.out.1 HH.out.2 (by omega) hle).mono ?_; rintro e w2 ⟨A2, c2, rfl, ho, hb2⟩; rw [HP.out]; rw [HP.out] at ho; have B2 := hid (below_trans BW.out hb2); have O2 := hid ho; clear ho hb2))
          go_roundw
          case rel => exact ⟨m + 1, by omega, by go_num, HNX.out, B4.out⟩
          case measure => simp [intOf]; omega
    · have hm2 : m = 241 := by omega
      subst hm2
      have HEND := hid (show fFew xs H = (0, 3) by rw [HFF.out]; rfl)
      have hin : inB ((241 : Nat) : Int) 0 240 = false := by decide
      go_wp2_with (go_at_call 124; refine (isClamps_any _ _).mono ?_; rintro e w' ⟨rfl, rfl⟩)
      go_ret2
      exact RetN2.mk HEND.out BW.out


set_option maxHeartbeats 1600000 in
set_option maxRecDepth 100000 in
theorem specFew_ok (A : Option Addr) (c : Nat) (xs : List DStep) (H : Int) (w : World) (hA : NestAt 1 hdStep inStep w A xs) (hok : ∀ x ∈ xs, x.ok) (hn : xs.length ≤ 1048576) (hi : ∀ x ∈ xs, x.fIn.length ≤ 1048576) :
    Calls Try.prog 37 #[.slice A xs.length c, .int .i64 H] w (RetN2 w (fFew xs H)) := by
  have HA := hid hA
  have HK := hid hok
  have HI := hid hi
  clear hA hok hi
  cases c1 : stepsB xs
  · have HF := hid (show fFew xs H = (0, 1) by unfold fFew; rw [if_pos c1])
    go_enter Try.func37, Try.ntmps37
    go_wp2_with fail
    refine (l17Ok_ok A c xs _ HA.out HK.out hn HI.out).mono ?_
    rintro e w1 ⟨rfl, hb⟩
    go_wp2_with fail
    go_ret2
    exact RetN2.mk HF.out hb
  cases c2 : inB H 0 2400
  · have HF := hid (show fFew xs H = (0, 2) by unfold fFew; rw [if_neg (by rw [c1]; exact fun h => by cases h), if_pos c2])
    go_enter Try.func37, Try.ntmps37
    go_wp2_with fail
    refine (l17Ok_ok A c xs _ HA.out HK.out hn HI.out).mono ?_
    rintro e w1 ⟨rfl, hb⟩
    go_wp2_with (go_at_call 117; refine (l00In_ok _ _ _ _).mono ?_; rintro e w' ⟨rfl, rfl⟩)
    go_ret2
    exact RetN2.mk HF.out hb
  have HF := hid (show fFew xs H = fewF (fitsN xs H) 0 241 by unfold fFew; rw [if_neg (by rw [c1]; exact fun h => by cases h), if_neg (by rw [c2]; exact fun h => by cases h)])
  have hH := inB_iff.1 c2
  have HH := hid (stepsB_iff.1 c1)
  go_enter Try.func37, Try.ntmps37
  go_wp2_with fail
  refine (l17Ok_ok A c xs _ HA.out HK.out hn HI.out).mono ?_
  rintro e w1 ⟨rfl, hb⟩
  have B1 := hid hb
  clear hb
  go_wp2_with (go_at_call 117; refine (l00In_ok _ _ _ _).mono ?_; rintro e w' ⟨rfl, rfl⟩)
  go_loopw [6] (fun n wr => ∃ m : Nat, m ≤ 241 ∧ n = .int .i64 m ∧ fFew xs H = fewF (fitsN xs H) m (241 - m) ∧ Below w.heap.size w wr) (fun n _ => (241 - intOf n).toNat)
  case atStart => exact ⟨0, by omega, rfl, by simpa using HF.out, B1.out⟩
  case round =>
    obtain ⟨m, hm, rfl, hff, hbel⟩ := hrel
    have HFF := hid hff
    have BW := hid hbel
    clear hff hbel
    by_cases hml : m < 241
    · have hin : inB (m : Int) 0 240 = true := inB_iff.2 ⟨by omega, by omega⟩
      have hle : (m : Int) ≤ 240 := by omega
      cases c3 : clampsTo xs m xs.length
      · have HNX := hid (show fFew xs H = fewF (fitsN xs H) ((m + 1 : Nat) : Int) (241 - (m + 1)) by
          rw [HFF.out, show 241 - m = (241 - (m + 1)) + 1 by omega, fewF_no (by rw [fitsN, c3, Bool.false_and])]
          congr 1)
        have HP := hid (show planN xs m = ([], false) by rw [planN, c3]; rfl)
        have C3 := hid c3
        clear c3
        go_wp2_with (go_at_call 118; refine (l17Clamps_ok _ _ xs m _ (HA.out.below BW.out) HH.out.1 HH.out.2).mono ?_; rintro e w2 ⟨rfl, hb2⟩; rw [C3.out]; have B2 := hid (below_trans BW.out hb2); clear hb2)
        go_roundw
        case rel => exact ⟨m + 1, by omega, by go_num, HNX.out, B2.out⟩
        case measure => simp [intOf]; omega
      · have HP := hid (show planN xs m = (planTo xs m xs.length, true) by rw [planN, c3]; rfl)
        have HBD := hid (plan_bd HH.out.1 _ (Nat.le_refl _) c3)
        have LK := hid (planTo_len xs m xs.length)
        have EB := endTo_bd HH.out.1 HBD.out LK.out _ (Nat.le_refl _)
        by_cases hen : endTo xs (planTo xs m xs.length) xs.length ≤ H
        · have HYES := hid (show fFew xs H = ((m : Int), 0) by
            rw [HFF.out, show 241 - m = (241 - (m + 1)) + 1 by omega, fewF_yes (by rw [fitsN, c3, decide_eq_true hen]; rfl)])
          have C3 := hid c3
          clear c3
          go_wp2_with (first | (go_at_call 119; refine (l17End_ok _ _ xs A3 c3 (planTo xs m xs.length) _ (HA.out.below B3.out) HH.out.1 HH.out.2 (ints_own O3.out) LK.out HBD.out).mono ?_; rintro e w4 ⟨rfl, hb4⟩; have B4 := hid (below_trans B3.out hb4); clear hb4) | (go_at_call 120; refine (l17Plan_ok _ _ xs m _ (HA.out.below B2.out) HH.out.1 HH.out.2 (by omega) hle C3.out).mono ?_; rintro e w3 ⟨A3, c3, rfl, ho, hno, hb3⟩; have B3 := hid (below_trans B2.out hb3); have O3 := hid ho; clear ho hb3) | (go_at_call 118; refine (l17Clamps_ok _ _ xs m _ (HA.out.below BW.out) HH.out.1 HH.out.2).mono ?_; rintro e w2 ⟨rfl, hb2⟩; rw [C3.out]; have B2 := hid (below_trans BW.out hb2); clear hb2))
          go_ret2
          exact RetN2.mk HYES.out B4.out
        · have HNX := hid (show fFew xs H = fewF (fitsN xs H) ((m + 1 : Nat) : Int) (241 - (m + 1)) by
            rw [HFF.out, show 241 - m = (241 - (m + 1)) + 1 by omega, fewF_no (by rw [fitsN, decide_eq_false hen, Bool.and_false])]
            congr 1)
          have C3 := hid c3
          clear c3
          go_wp2_with (first | (go_at_call 119; refine (l17End_ok _ _ xs A3 c3 (planTo xs m xs.length) _ (HA.out.below B3.out) HH.out.1 HH.out.2 (ints_own O3.out) LK.out HBD.out).mono ?_; rintro e w4 ⟨rfl, hb4⟩; have B4 := hid (below_trans B3.out hb4); clear hb4) | (go_at_call 120; refine (l17Plan_ok _ _ xs m _ (HA.out.below B2.out) HH.out.1 HH.out.2 (by omega) hle C3.out).mono ?_; rintro e w3 ⟨A3, c3, rfl, ho, hno, hb3⟩; have B3 := hid (below_trans B2.out hb3); have O3 := hid ho; clear ho hb3) | (go_at_call 118; refine (l17Clamps_ok _ _ xs m _ (HA.out.below BW.out) HH.out.1 HH.out.2).mono ?_; rintro e w2 ⟨rfl, hb2⟩; rw [C3.out]; have B2 := hid (below_trans BW.out hb2); clear hb2))
          go_roundw
          case rel => exact ⟨m + 1, by omega, by go_num, HNX.out, B4.out⟩
          case measure => simp [intOf]; omega
    · have hm2 : m = 241 := by omega
      subst hm2
      have HEND := hid (show fFew xs H = (0, 3) by rw [HFF.out]; rfl)
      have hin : inB ((241 : Nat) : Int) 0 240 = false := by decide
      go_wp2_with fail
      go_ret2
      exact RetN2.mk HEND.out BW.out

end Go.Proofs.Ytnekigpeknenjaa
