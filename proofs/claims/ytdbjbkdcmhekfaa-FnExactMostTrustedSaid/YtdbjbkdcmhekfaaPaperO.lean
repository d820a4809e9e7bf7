/- Paper: impl's and spec's test of one. -/
import Derived.Test.YtdbjbkdcmhekfaaHas
import Derived.Test.YtdbjbkdcmhekfaaRange
namespace Go.Proofs.Ytdbjbkdcmhekfaa
open Go.RowKit
set_option linter.unusedVariables false

def paperB (xId : ByteArray) (xMaker : ByteArray) (xEarly : Int) (xLate : Int) (xTrust : Int) : Bool := nameB xId && (nameB xMaker && (decide (1500 ≤ xEarly) && (decide (xEarly ≤ xLate) && (decide (xLate ≤ 2100) && (inB xTrust 1 1000)))))

set_option maxHeartbeats 800000 in
set_option maxRecDepth 100000 in
theorem paperValid_ok (xId : ByteArray) (xMaker : ByteArray) (xEarly : Int) (xLate : Int) (xTrust : Int) (w : World) (hsId : xId.size ≤ maxLen) (hsMaker : xMaker.size ≤ maxLen) :
    Calls Try.prog 135 #[.agg #[.string xId, .string xMaker, .int .i64 xEarly, .int .i64 xLate, .int .i64 xTrust]] w fun e w' => e = .returned (.bool (paperB xId xMaker xEarly xLate xTrust)) ∧ Below w.heap.size w w' := by
  go_enter Try.func135, Try.ntmps135
  go_wp2_with (first | (go_at_call 171; refine (IsName_ok _ _ (by assumption)).mono ?_; rintro e w' ⟨rfl, rfl⟩) | (go_at_call 73; refine (within_ok _ _ _ _).mono ?_; rintro e w' ⟨rfl, rfl⟩))
  all_goals (go_ret; exact ⟨ret_bool (by simp [paperB, *] <;> (intros; omega)), below_alloc _ _⟩)

def paperBS (xId : ByteArray) (xMaker : ByteArray) (xEarly : Int) (xLate : Int) (xTrust : Int) : Bool := nameB xId && (nameB xMaker && (inB xEarly 1500 2100 && (inB xLate 1500 2100 && (decide (xEarly ≤ xLate) && (inB xTrust 1 1000)))))
theorem paperBS_eq (xId : ByteArray) (xMaker : ByteArray) (xEarly : Int) (xLate : Int) (xTrust : Int) : paperBS xId xMaker xEarly xLate xTrust = paperB xId xMaker xEarly xLate xTrust := by
  rw [Bool.eq_iff_iff]
  simp only [paperBS, paperB, Bool.and_eq_true, inB_iff, decide_eq_true_eq]
  constructor
  · rintro ⟨a0, a1, a2, a3, a4, a5⟩
    refine ⟨?_, ?_, ?_, ?_, ?_, ?_⟩ <;> first | assumption | omega
  · rintro ⟨a0, a1, a2, a3, a4, a5⟩
    refine ⟨?_, ?_, ?_, ?_, ?_, ?_⟩ <;> first | assumption | omega
set_option maxHeartbeats 800000 in
set_option maxRecDepth 100000 in
theorem paperOne_okS (xId : ByteArray) (xMaker : ByteArray) (xEarly : Int) (xLate : Int) (xTrust : Int) (b o : Nat) (w : World) (hsId : xId.size ≤ maxLen) (hsMaker : xMaker.size ≤ maxLen) (k0 : w.cell? ⟨b, o, none⟩ = some (.string xId)) (k1 : w.cell? ⟨b, o + 1, none⟩ = some (.string xMaker)) (k2 : w.cell? ⟨b, o + 2, none⟩ = some (.int .i64 xEarly)) (k3 : w.cell? ⟨b, o + 3, none⟩ = some (.int .i64 xLate)) (k4 : w.cell? ⟨b, o + 4, none⟩ = some (.int .i64 xTrust)) :
    Calls Try.prog 131 #[.pointer (some ⟨b, o, none⟩)] w fun e w' => e = .returned (.bool (paperBS xId xMaker xEarly xLate xTrust)) ∧ Below w.heap.size w w' := by
  cases h0 : nameB xId
  · have HB := hid (show paperBS xId xMaker xEarly xLate xTrust = false by simp [paperBS, h0])
    go_enter Try.func131, Try.ntmps131
    go_wp2_with fail
    go_quiet (first | (go_at_call 168; with_reducible exact quiet_left (l01Name_eq h0 _ (by assumption))))
    go_wp2_with fail
    go_ret
    exact ⟨ret_bool (HB.out.symm), below_drewN _ _⟩
  cases h1 : nameB xMaker
  · have HB := hid (show paperBS xId xMaker xEarly xLate xTrust = false by simp [paperBS, h0, h1])
    go_enter Try.func131, Try.ntmps131
    go_wp2_with fail
    go_quiet (first | (go_at_call 168; with_reducible exact quiet_left (l01Name_eq h0 _ (by assumption))) | (go_at_call 168; with_reducible exact quiet_left (l01Name_eq h1 _ (by assumption))))
    go_wp2_with fail
    go_ret
    exact ⟨ret_bool (HB.out.symm), below_drewN _ _⟩
  cases h2 : inB xEarly 1500 2100
  · have HB := hid (show paperBS xId xMaker xEarly xLate xTrust = false by simp [paperBS, h0, h1, h2])
    go_enter Try.func131, Try.ntmps131
    go_wp2_with fail
    go_quiet (first | (go_at_call 168; with_reducible exact quiet_left (l01Name_eq h0 _ (by assumption))) | (go_at_call 168; with_reducible exact quiet_left (l01Name_eq h1 _ (by assumption))) | (go_at_call 169; with_reducible exact quiet_left (l20Year_eq h2 _)))
    go_wp2_with fail
    go_ret
    exact ⟨ret_bool (HB.out.symm), below_drewN _ _⟩
  obtain ⟨bl2, bu2⟩ := inB_iff.1 h2
  cases h3 : inB xLate 1500 2100
  · have HB := hid (show paperBS xId xMaker xEarly xLate xTrust = false by simp [paperBS, h0, h1, h2, h3])
    go_enter Try.func131, Try.ntmps131
    go_wp2_with fail
    go_quiet (first | (go_at_call 168; with_reducible exact quiet_left (l01Name_eq h0 _ (by assumption))) | (go_at_call 168; with_reducible exact quiet_left (l01Name_eq h1 _ (by assumption))) | (go_at_call 169; with_reducible exact quiet_left (l20Year_eq h2 _)) | (go_at_call 169; with_reducible exact quiet_left (l20Year_eq h3 _)))
    go_wp2_with fail
    go_ret
    exact ⟨ret_bool (HB.out.symm), below_drewN _ _⟩
  obtain ⟨bl3, bu3⟩ := inB_iff.1 h3
  cases h4 : decide (xEarly ≤ xLate)
  · have HB := hid (show paperBS xId xMaker xEarly xLate xTrust = false by simp [paperBS, h0, h1, h2, h3, h4])
    go_enter Try.func131, Try.ntmps131
    go_wp2_with fail
    go_quiet (first | (go_at_call 168; with_reducible exact quiet_left (l01Name_eq h0 _ (by assumption))) | (go_at_call 168; with_reducible exact quiet_left (l01Name_eq h1 _ (by assumption))) | (go_at_call 169; with_reducible exact quiet_left (l20Year_eq h2 _)) | (go_at_call 169; with_reducible exact quiet_left (l20Year_eq h3 _)))
    go_wp2_with fail
    go_ret
    exact ⟨ret_bool (HB.out.symm), below_drewN _ _⟩
  cases h5 : inB xTrust 1 1000
  · have HB := hid (show paperBS xId xMaker xEarly xLate xTrust = false by simp [paperBS, h0, h1, h2, h3, h4, h5])
    go_enter Try.func131, Try.ntmps131
    go_wp2_with fail
    go_quiet (first | (go_at_call 168; with_reducible exact quiet_left (l01Name_eq h0 _ (by assumption))) | (go_at_call 168; with_reducible exact quiet_left (l01Name_eq h1 _ (by assumption))) | (go_at_call 169; with_reducible exact quiet_left (l20Year_eq h2 _)) | (go_at_call 169; with_reducible exact quiet_left (l20Year_eq h3 _)) | (go_at_call 69; with_reducible exact quiet_left (l00In_eq h5 _)))
    go_wp2_with fail
    go_ret
    exact ⟨ret_bool (HB.out.symm), below_drewN _ _⟩
  obtain ⟨bl5, bu5⟩ := inB_iff.1 h5
  have HB := hid (show paperBS xId xMaker xEarly xLate xTrust = true by simp [paperBS, h0, h1, h2, h3, h4, h5])
  go_enter Try.func131, Try.ntmps131
  go_wp2_with fail
  go_quiet (first | (go_at_call 168; with_reducible exact quiet_left (l01Name_eq h0 _ (by assumption))) | (go_at_call 168; with_reducible exact quiet_left (l01Name_eq h1 _ (by assumption))) | (go_at_call 169; with_reducible exact quiet_left (l20Year_eq h2 _)) | (go_at_call 169; with_reducible exact quiet_left (l20Year_eq h3 _)) | (go_at_call 69; with_reducible exact quiet_left (l00In_eq h5 _)))
  go_wp2_with fail
  go_ret
  exact ⟨ret_bool (HB.out.symm), below_drewN _ _⟩

theorem paperOne_ok (xId : ByteArray) (xMaker : ByteArray) (xEarly : Int) (xLate : Int) (xTrust : Int) (b o : Nat) (w : World) (hsId : xId.size ≤ maxLen) (hsMaker : xMaker.size ≤ maxLen) (k0 : w.cell? ⟨b, o, none⟩ = some (.string xId)) (k1 : w.cell? ⟨b, o + 1, none⟩ = some (.string xMaker)) (k2 : w.cell? ⟨b, o + 2, none⟩ = some (.int .i64 xEarly)) (k3 : w.cell? ⟨b, o + 3, none⟩ = some (.int .i64 xLate)) (k4 : w.cell? ⟨b, o + 4, none⟩ = some (.int .i64 xTrust)) :
    Calls Try.prog 131 #[.pointer (some ⟨b, o, none⟩)] w fun e w' => e = .returned (.bool (paperB xId xMaker xEarly xLate xTrust)) ∧ Below w.heap.size w w' := by
  rw [← paperBS_eq]
  exact paperOne_okS xId xMaker xEarly xLate xTrust b o w hsId hsMaker k0 k1 k2 k3 k4

end Go.Proofs.Ytdbjbkdcmhekfaa
