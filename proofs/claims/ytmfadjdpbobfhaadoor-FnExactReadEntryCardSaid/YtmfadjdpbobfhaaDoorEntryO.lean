/- Entry: impl's and spec's test of one. -/
import Derived.Test.YtmfadjdpbobfhaaDoorHas
import Derived.Test.YtmfadjdpbobfhaaDoorRange
namespace Go.Proofs.YtmfadjdpbobfhaaDoor
open Go.RowKit
set_option linter.unusedVariables false

def entryB (xDay : Int) (xDebit : ByteArray) (xCredit : ByteArray) (xAmount : Int) : Bool := inB xDay 0 100000 && (nameB xDebit && (nameB xCredit && (!(xDebit.toList == xCredit.toList) && (inB xAmount 1 10000000))))

set_option maxHeartbeats 800000 in
set_option maxRecDepth 100000 in
theorem entryValid_ok (xDay : Int) (xDebit : ByteArray) (xCredit : ByteArray) (xAmount : Int) (w : World) (hsDebit : xDebit.size ≤ maxLen) (hsCredit : xCredit.size ≤ maxLen) :
    Calls Tryd.prog 129 #[.agg #[.int .i64 xDay, .string xDebit, .string xCredit, .int .i64 xAmount]] w fun e w' => e = .returned (.bool (entryB xDay xDebit xCredit xAmount)) ∧ Below w.heap.size w w' := by
  go_enter Tryd.func129, Tryd.ntmps129
  go_wp2_with (first | (go_at_call 156; refine (isRentDay_ok _ _).mono ?_; rintro e w' ⟨rfl, rfl⟩) | (go_at_call 114; refine (IsName_ok _ _ (by assumption)).mono ?_; rintro e w' ⟨rfl, rfl⟩) | (go_at_call 88; refine (within_ok _ _ _ _).mono ?_; rintro e w' ⟨rfl, rfl⟩))
  all_goals (go_ret; exact ⟨ret_bool (by simp [entryB, *]), below_alloc _ _⟩)

set_option maxHeartbeats 800000 in
set_option maxRecDepth 100000 in
theorem entryOne_ok (xDay : Int) (xDebit : ByteArray) (xCredit : ByteArray) (xAmount : Int) (b o : Nat) (w : World) (hsDebit : xDebit.size ≤ maxLen) (hsCredit : xCredit.size ≤ maxLen) (k0 : w.cell? ⟨b, o, none⟩ = some (.int .i64 xDay)) (k1 : w.cell? ⟨b, o + 1, none⟩ = some (.string xDebit)) (k2 : w.cell? ⟨b, o + 2, none⟩ = some (.string xCredit)) (k3 : w.cell? ⟨b, o + 3, none⟩ = some (.int .i64 xAmount)) :
    Calls Tryd.prog 78 #[.pointer (some ⟨b, o, none⟩)] w fun e w' => e = .returned (.bool (entryB xDay xDebit xCredit xAmount)) ∧ Below w.heap.size w w' := by
  cases h0 : inB xDay 0 100000
  · have HB := hid (show entryB xDay xDebit xCredit xAmount = false by simp [entryB, h0])
    go_enter Tryd.func78, Tryd.ntmps78
    go_wp2_with fail
    go_quiet (first | (go_at_call 128; with_reducible exact quiet_left (l21Day_eq h0 _)))
    go_wp2_with fail
    go_ret
    exact ⟨ret_bool (HB.out.symm), below_drewN _ _⟩
  obtain ⟨bl0, bu0⟩ := inB_iff.1 h0
  cases h1 : nameB xDebit
  · have HB := hid (show entryB xDay xDebit xCredit xAmount = false by simp [entryB, h0, h1])
    go_enter Tryd.func78, Tryd.ntmps78
    go_wp2_with fail
    go_quiet (first | (go_at_call 128; with_reducible exact quiet_left (l21Day_eq h0 _)) | (go_at_call 108; with_reducible exact quiet_left (l01Name_eq h1 _ (by assumption))))
    go_wp2_with fail
    go_ret
    exact ⟨ret_bool (HB.out.symm), below_drewN _ _⟩
  cases h2 : nameB xCredit
  · have HB := hid (show entryB xDay xDebit xCredit xAmount = false by simp [entryB, h0, h1, h2])
    go_enter Tryd.func78, Tryd.ntmps78
    go_wp2_with fail
    go_quiet (first | (go_at_call 128; with_reducible exact quiet_left (l21Day_eq h0 _)) | (go_at_call 108; with_reducible exact quiet_left (l01Name_eq h1 _ (by assumption))) | (go_at_call 108; with_reducible exact quiet_left (l01Name_eq h2 _ (by assumption))))
    go_wp2_with fail
    go_ret
    exact ⟨ret_bool (HB.out.symm), below_drewN _ _⟩
  cases h3 : (xDebit.toList == xCredit.toList)
  rotate_left
  · have HB := hid (show entryB xDay xDebit xCredit xAmount = false by simp [entryB, h0, h1, h2, h3])
    go_enter Tryd.func78, Tryd.ntmps78
    go_wp2_with fail
    go_quiet (first | (go_at_call 128; with_reducible exact quiet_left (l21Day_eq h0 _)) | (go_at_call 108; with_reducible exact quiet_left (l01Name_eq h1 _ (by assumption))) | (go_at_call 108; with_reducible exact quiet_left (l01Name_eq h2 _ (by assumption))))
    go_wp2_with fail
    go_ret
    exact ⟨ret_bool (HB.out.symm), below_drewN _ _⟩
  cases h4 : inB xAmount 1 10000000
  · have HB := hid (show entryB xDay xDebit xCredit xAmount = false by simp [entryB, h0, h1, h2, h3, h4])
    go_enter Tryd.func78, Tryd.ntmps78
    go_wp2_with fail
    go_quiet (first | (go_at_call 128; with_reducible exact quiet_left (l21Day_eq h0 _)) | (go_at_call 108; with_reducible exact quiet_left (l01Name_eq h1 _ (by assumption))) | (go_at_call 108; with_reducible exact quiet_left (l01Name_eq h2 _ (by assumption))) | (go_at_call 95; with_reducible exact quiet_left (l00In_eq h4 _)))
    go_wp2_with fail
    go_ret
    exact ⟨ret_bool (HB.out.symm), below_drewN _ _⟩
  obtain ⟨bl4, bu4⟩ := inB_iff.1 h4
  have HB := hid (show entryB xDay xDebit xCredit xAmount = true by simp [entryB, h0, h1, h2, h3, h4])
  go_enter Tryd.func78, Tryd.ntmps78
  go_wp2_with fail
  go_quiet (first | (go_at_call 128; with_reducible exact quiet_left (l21Day_eq h0 _)) | (go_at_call 108; with_reducible exact quiet_left (l01Name_eq h1 _ (by assumption))) | (go_at_call 108; with_reducible exact quiet_left (l01Name_eq h2 _ (by assumption))) | (go_at_call 95; with_reducible exact quiet_left (l00In_eq h4 _)))
  go_wp2_with fail
  go_ret
  exact ⟨ret_bool (HB.out.symm), below_drewN _ _⟩

end Go.Proofs.YtmfadjdpbobfhaaDoor
