/- Work: impl's and spec's test of one. -/
import Derived.Test.YtdbjbkdcmhekfaaHas
import Derived.Test.YtdbjbkdcmhekfaaRange
namespace Go.Proofs.Ytdbjbkdcmhekfaa
open Go.RowKit
set_option linter.unusedVariables false

def workB (xId : ByteArray) (xDays : Int) (xFirst : Int) (xLast : Int) : Bool := nameB xId && (inB xDays 1 40 && (inB xFirst 0 39 && (inB xLast 0 39 && (decide (xFirst + xDays - 1 ≤ xLast)))))

set_option maxHeartbeats 800000 in
set_option maxRecDepth 100000 in
theorem workValid_ok (xId : ByteArray) (xDays : Int) (xFirst : Int) (xLast : Int) (w : World) (hsId : xId.size ≤ maxLen) :
    Calls Try.prog 146 #[.agg #[.string xId, .int .i64 xDays, .int .i64 xFirst, .int .i64 xLast]] w fun e w' => e = .returned (.bool (workB xId xDays xFirst xLast)) ∧ Below w.heap.size w w' := by
  cases h0 : nameB xId
  · have HB := hid (show workB xId xDays xFirst xLast = false by simp [workB, h0])
    go_enter Try.func146, Try.ntmps146
    go_wp2_with (first | (go_at_call 171; refine (IsName_ok _ _ (by assumption)).mono ?_; rintro e w' ⟨rfl, rfl⟩) | (go_at_call 180; refine (isSpan_ok _ _).mono ?_; rintro e w' ⟨rfl, rfl⟩) | (go_at_call 181; refine (isDate_ok _ _).mono ?_; rintro e w' ⟨rfl, rfl⟩))
    go_ret
    exact ⟨ret_bool (by first | exact HB.out.symm | (rw [HB.out]; simp [*])), below_alloc _ _⟩
  cases h1 : inB xDays 1 40
  · have HB := hid (show workB xId xDays xFirst xLast = false by simp [workB, h0, h1])
    go_enter Try.func146, Try.ntmps146
    go_wp2_with (first | (go_at_call 171; refine (IsName_ok _ _ (by assumption)).mono ?_; rintro e w' ⟨rfl, rfl⟩) | (go_at_call 180; refine (isSpan_ok _ _).mono ?_; rintro e w' ⟨rfl, rfl⟩) | (go_at_call 181; refine (isDate_ok _ _).mono ?_; rintro e w' ⟨rfl, rfl⟩))
    go_ret
    exact ⟨ret_bool (by first | exact HB.out.symm | (rw [HB.out]; simp [*])), below_alloc _ _⟩
  obtain ⟨bl1, bu1⟩ := inB_iff.1 h1
  cases h2 : inB xFirst 0 39
  · have HB := hid (show workB xId xDays xFirst xLast = false by simp [workB, h0, h1, h2])
    go_enter Try.func146, Try.ntmps146
    go_wp2_with (first | (go_at_call 171; refine (IsName_ok _ _ (by assumption)).mono ?_; rintro e w' ⟨rfl, rfl⟩) | (go_at_call 180; refine (isSpan_ok _ _).mono ?_; rintro e w' ⟨rfl, rfl⟩) | (go_at_call 181; refine (isDate_ok _ _).mono ?_; rintro e w' ⟨rfl, rfl⟩))
    go_ret
    exact ⟨ret_bool (by first | exact HB.out.symm | (rw [HB.out]; simp [*])), below_alloc _ _⟩
  obtain ⟨bl2, bu2⟩ := inB_iff.1 h2
  cases h3 : inB xLast 0 39
  · have HB := hid (show workB xId xDays xFirst xLast = false by simp [workB, h0, h1, h2, h3])
    go_enter Try.func146, Try.ntmps146
    go_wp2_with (first | (go_at_call 171; refine (IsName_ok _ _ (by assumption)).mono ?_; rintro e w' ⟨rfl, rfl⟩) | (go_at_call 180; refine (isSpan_ok _ _).mono ?_; rintro e w' ⟨rfl, rfl⟩) | (go_at_call 181; refine (isDate_ok _ _).mono ?_; rintro e w' ⟨rfl, rfl⟩))
    go_ret
    exact ⟨ret_bool (by first | exact HB.out.symm | (rw [HB.out]; simp [*])), below_alloc _ _⟩
  obtain ⟨bl3, bu3⟩ := inB_iff.1 h3
  cases h4 : decide (xFirst + xDays - 1 ≤ xLast)
  · have HB := hid (show workB xId xDays xFirst xLast = false by simp [workB, h0, h1, h2, h3, h4])
    go_enter Try.func146, Try.ntmps146
    go_wp2_with (first | (go_at_call 171; refine (IsName_ok _ _ (by assumption)).mono ?_; rintro e w' ⟨rfl, rfl⟩) | (go_at_call 180; refine (isSpan_ok _ _).mono ?_; rintro e w' ⟨rfl, rfl⟩) | (go_at_call 181; refine (isDate_ok _ _).mono ?_; rintro e w' ⟨rfl, rfl⟩))
    go_ret
    exact ⟨ret_bool (by first | exact HB.out.symm | (rw [HB.out]; simp [*])), below_alloc _ _⟩
  have HB := hid (show workB xId xDays xFirst xLast = true by simp [workB, h0, h1, h2, h3, h4])
  go_enter Try.func146, Try.ntmps146
  go_wp2_with (first | (go_at_call 171; refine (IsName_ok _ _ (by assumption)).mono ?_; rintro e w' ⟨rfl, rfl⟩) | (go_at_call 180; refine (isSpan_ok _ _).mono ?_; rintro e w' ⟨rfl, rfl⟩) | (go_at_call 181; refine (isDate_ok _ _).mono ?_; rintro e w' ⟨rfl, rfl⟩))
  go_ret
  exact ⟨ret_bool (by first | exact HB.out.symm | (rw [HB.out]; simp [*])), below_alloc _ _⟩

set_option maxHeartbeats 800000 in
set_option maxRecDepth 100000 in
theorem workOne_ok (xId : ByteArray) (xDays : Int) (xFirst : Int) (xLast : Int) (b o : Nat) (w : World) (hsId : xId.size ≤ maxLen) (k0 : w.cell? ⟨b, o, none⟩ = some (.string xId)) (k1 : w.cell? ⟨b, o + 1, none⟩ = some (.int .i64 xDays)) (k2 : w.cell? ⟨b, o + 2, none⟩ = some (.int .i64 xFirst)) (k3 : w.cell? ⟨b, o + 3, none⟩ = some (.int .i64 xLast)) :
    Calls Try.prog 144 #[.pointer (some ⟨b, o, none⟩)] w fun e w' => e = .returned (.bool (workB xId xDays xFirst xLast)) ∧ Below w.heap.size w w' := by
  cases h0 : nameB xId
  · have HB := hid (show workB xId xDays xFirst xLast = false by simp [workB, h0])
    go_enter Try.func144, Try.ntmps144
    go_wp2_with fail
    go_quiet (first | (go_at_call 168; with_reducible exact quiet_left (l01Name_eq h0 _ (by assumption))))
    go_wp2_with fail
    go_ret
    exact ⟨ret_bool (HB.out.symm), below_drewN _ _⟩
  cases h1 : inB xDays 1 40
  · have HB := hid (show workB xId xDays xFirst xLast = false by simp [workB, h0, h1])
    go_enter Try.func144, Try.ntmps144
    go_wp2_with fail
    go_quiet (first | (go_at_call 168; with_reducible exact quiet_left (l01Name_eq h0 _ (by assumption))) | (go_at_call 176; with_reducible exact quiet_left (l18Days_eq h1 _)))
    go_wp2_with fail
    go_ret
    exact ⟨ret_bool (HB.out.symm), below_drewN _ _⟩
  obtain ⟨bl1, bu1⟩ := inB_iff.1 h1
  cases h2 : inB xFirst 0 39
  · have HB := hid (show workB xId xDays xFirst xLast = false by simp [workB, h0, h1, h2])
    go_enter Try.func144, Try.ntmps144
    go_wp2_with fail
    go_quiet (first | (go_at_call 168; with_reducible exact quiet_left (l01Name_eq h0 _ (by assumption))) | (go_at_call 176; with_reducible exact quiet_left (l18Days_eq h1 _)) | (go_at_call 177; with_reducible exact quiet_left (l18Day_eq h2 _)))
    go_wp2_with fail
    go_ret
    exact ⟨ret_bool (HB.out.symm), below_drewN _ _⟩
  obtain ⟨bl2, bu2⟩ := inB_iff.1 h2
  cases h3 : inB xLast 0 39
  · have HB := hid (show workB xId xDays xFirst xLast = false by simp [workB, h0, h1, h2, h3])
    go_enter Try.func144, Try.ntmps144
    go_wp2_with fail
    go_quiet (first | (go_at_call 168; with_reducible exact quiet_left (l01Name_eq h0 _ (by assumption))) | (go_at_call 176; with_reducible exact quiet_left (l18Days_eq h1 _)) | (go_at_call 177; with_reducible exact quiet_left (l18Day_eq h2 _)) | (go_at_call 177; with_reducible exact quiet_left (l18Day_eq h3 _)))
    go_wp2_with fail
    go_ret
    exact ⟨ret_bool (HB.out.symm), below_drewN _ _⟩
  obtain ⟨bl3, bu3⟩ := inB_iff.1 h3
  cases h4 : decide (xFirst + xDays - 1 ≤ xLast)
  · have HB := hid (show workB xId xDays xFirst xLast = false by simp [workB, h0, h1, h2, h3, h4])
    go_enter Try.func144, Try.ntmps144
    go_wp2_with fail
    go_quiet (first | (go_at_call 168; with_reducible exact quiet_left (l01Name_eq h0 _ (by assumption))) | (go_at_call 176; with_reducible exact quiet_left (l18Days_eq h1 _)) | (go_at_call 177; with_reducible exact quiet_left (l18Day_eq h2 _)) | (go_at_call 177; with_reducible exact quiet_left (l18Day_eq h3 _)))
    go_wp2_with fail
    go_ret
    exact ⟨ret_bool (HB.out.symm), below_drewN _ _⟩
  have HB := hid (show workB xId xDays xFirst xLast = true by simp [workB, h0, h1, h2, h3, h4])
  go_enter Try.func144, Try.ntmps144
  go_wp2_with fail
  go_quiet (first | (go_at_call 168; with_reducible exact quiet_left (l01Name_eq h0 _ (by assumption))) | (go_at_call 176; with_reducible exact quiet_left (l18Days_eq h1 _)) | (go_at_call 177; with_reducible exact quiet_left (l18Day_eq h2 _)) | (go_at_call 177; with_reducible exact quiet_left (l18Day_eq h3 _)))
  go_wp2_with fail
  go_ret
  exact ⟨ret_bool (HB.out.symm), below_drewN _ _⟩

end Go.Proofs.Ytdbjbkdcmhekfaa
