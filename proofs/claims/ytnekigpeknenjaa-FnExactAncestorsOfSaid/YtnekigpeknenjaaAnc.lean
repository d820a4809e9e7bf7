/- AncestorsOf and its reference. -/
import Derived.Test.YtnekigpeknenjaaHist
import Derived.Test.YtnekigpeknenjaaRet
namespace Go.Proofs.Ytnekigpeknenjaa
open Go.RowKit
set_option linter.unusedVariables false

noncomputable def fAnc (xs : List DVersion) (m : Int) : List Int × Int :=
  if histB xs = false then ([], 1) else if inB m 1 xs.length = false then ([], 3) else (ancN xs m.toNat, 0)
theorem fAnc_small (xs : List DVersion) (m : Int) : (fAnc xs m).1.length ≤ 32 := by
  unfold fAnc
  split
  · simp
  · split
    · simp
    · rename_i h1 h2
      have h := histB_iff.1 (by simpa using h1)
      have h3 := inB_iff.1 (by simpa using h2)
      have h4 := (parN_lt h.1 (p := m.toNat) (by omega) (by omega)).1
      have h5 := restN_len xs (parN xs m.toNat)
      simp only [ancN]
      omega

set_option maxHeartbeats 800000 in
set_option maxRecDepth 100000 in
theorem implAnc_ok (A : Option Addr) (c : Nat) (xs : List DVersion) (m : Int) (w : World) (hA : NestAt 2 hdVersion inVersion w A xs) (hok : ∀ x ∈ xs, x.ok) (hn : xs.length ≤ 1048576) (hi : ∀ x ∈ xs, x.fIn.length ≤ 1048576) (hr : -9223372036854775808 ≤ m ∧ m ≤ 9223372036854775807) :
    Calls Try.prog 52 #[.slice A xs.length c, .int .i64 m] w (RetIC w (fAnc xs m)) := by
  have HA := hid hA
  have HK := hid hok
  have HI := hid hi
  clear hA hok hi
  cases c1 : histB xs
  · have HF := hid (show fAnc xs m = ([], 1) by unfold fAnc; rw [if_pos c1])
    go_enter Try.func52, Try.ntmps52
    go_wp2_with fail
    refine (ValidHistory_ok A c xs _ HA.out HK.out hn HI.out).mono ?_
    rintro e w1 ⟨rfl, hb⟩
    go_wp2_with fail
    go_ret2
    exact RetIC.nil HF.out hb
  cases c2 : inB m 1 xs.length
  · have HF := hid (show fAnc xs m = ([], 3) by unfold fAnc; rw [if_neg (by rw [c1]; exact fun h => by cases h), if_pos c2])
    go_enter Try.func52, Try.ntmps52
    go_wp2_with fail
    refine (ValidHistory_ok A c xs _ HA.out HK.out hn HI.out).mono ?_
    rintro e w1 ⟨rfl, hb⟩
    go_wp2_with (go_at_call 98; refine (isVersion_ok _ _ _ _ _ (by omega) hr.1 hr.2).mono ?_; rintro e w' ⟨rfl, rfl⟩)
    go_ret2
    exact RetIC.nil HF.out hb
  have hm := inB_iff.1 c2
  obtain ⟨p, rfl⟩ : ∃ p : Nat, m = p := ⟨m.toNat, by omega⟩
  have HF := hid (show fAnc xs p = (ancN xs p, 0) by unfold fAnc; rw [if_neg (by rw [c1]; exact fun h => by cases h), if_neg (by rw [c2]; exact fun h => by cases h)]; rfl)
  have HH := hid (histB_iff.1 c1)
  have hl := HH.out.2
  go_enter Try.func52, Try.ntmps52
  go_wp2_with fail
  refine (ValidHistory_ok A c xs _ HA.out HK.out hn HI.out).mono ?_
  rintro e w1 ⟨rfl, hb⟩
  have B1 := hid hb
  clear hb
  go_wp2_with (first | (go_at_call 98; refine (isVersion_ok _ _ _ _ _ (by omega) hr.1 hr.2).mono ?_; rintro e w' ⟨rfl, rfl⟩) | (go_at_call 135; refine (ancestors_ok _ _ xs p _ (HA.out.below B1.out) HH.out.1 hl (by omega) (by omega)).mono ?_; rintro e w2 ⟨A2, c2, rfl, ho, hno, hb2⟩))
  go_ret2
  exact RetIC.own HF.out (own_mono ho B1.out.size) (below_trans B1.out hb2)

set_option maxHeartbeats 800000 in
set_option maxRecDepth 100000 in
theorem specAnc_ok (A : Option Addr) (c : Nat) (xs : List DVersion) (m : Int) (w : World) (hA : NestAt 2 hdVersion inVersion w A xs) (hok : ∀ x ∈ xs, x.ok) (hn : xs.length ≤ 1048576) (hi : ∀ x ∈ xs, x.fIn.length ≤ 1048576) (hr : -9223372036854775808 ≤ m ∧ m ≤ 9223372036854775807) :
    Calls Try.prog 51 #[.slice A xs.length c, .int .i64 m] w (RetIC w (fAnc xs m)) := by
  have HA := hid hA
  have HK := hid hok
  have HI := hid hi
  clear hA hok hi
  cases c1 : histB xs
  · have HF := hid (show fAnc xs m = ([], 1) by unfold fAnc; rw [if_pos c1])
    go_enter Try.func51, Try.ntmps51
    go_wp2_with fail
    refine (l27Ok_ok A c xs _ HA.out HK.out hn HI.out).mono ?_
    rintro e w1 ⟨rfl, hb⟩
    go_wp2_with fail
    go_ret2
    exact RetIC.nil HF.out hb
  cases c2 : inB m 1 xs.length
  · have HF := hid (show fAnc xs m = ([], 3) by unfold fAnc; rw [if_neg (by rw [c1]; exact fun h => by cases h), if_pos c2])
    go_enter Try.func51, Try.ntmps51
    go_wp2_with fail
    refine (l27Ok_ok A c xs _ HA.out HK.out hn HI.out).mono ?_
    rintro e w1 ⟨rfl, hb⟩
    go_wp2_with (go_at_call 94; refine (l27Number_ok _ _ _ _ _).mono ?_; rintro e w' ⟨rfl, rfl⟩)
    go_ret2
    exact RetIC.nil HF.out hb
  have hm := inB_iff.1 c2
  obtain ⟨p, rfl⟩ : ∃ p : Nat, m = p := ⟨m.toNat, by omega⟩
  have HF := hid (show fAnc xs p = (ancN xs p, 0) by unfold fAnc; rw [if_neg (by rw [c1]; exact fun h => by cases h), if_neg (by rw [c2]; exact fun h => by cases h)]; rfl)
  have HH := hid (histB_iff.1 c1)
  have hl := HH.out.2
  go_enter Try.func51, Try.ntmps51
  go_wp2_with fail
  refine (l27Ok_ok A c xs _ HA.out HK.out hn HI.out).mono ?_
  rintro e w1 ⟨rfl, hb⟩
  have B1 := hid hb
  clear hb
  go_wp2_with (first | (go_at_call 94; refine (l27Number_ok _ _ _ _ _).mono ?_; rintro e w' ⟨rfl, rfl⟩) | (go_at_call 134; refine (l27Above_ok _ _ xs p _ (HA.out.below B1.out) HH.out.1 hl (by omega) (by omega)).mono ?_; rintro e w2 ⟨A2, c2, rfl, ho, hno, hb2⟩))
  go_ret2
  exact RetIC.own HF.out (own_mono ho B1.out.size) (below_trans B1.out hb2)

end Go.Proofs.Ytnekigpeknenjaa
