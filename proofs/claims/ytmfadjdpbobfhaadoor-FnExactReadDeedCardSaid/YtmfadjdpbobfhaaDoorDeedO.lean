/- Deed: impl's and spec's test of one. -/
import Derived.Test.YtmfadjdpbobfhaaDoorHas
import Derived.Test.YtmfadjdpbobfhaaDoorRange
namespace Go.Proofs.YtmfadjdpbobfhaaDoor
open Go.RowKit
set_option linter.unusedVariables false

def deedB (xFrom : ByteArray) (xTo : ByteArray) (xYear : Int) (xDoubt : Int) : Bool := nameB xFrom && (nameB xTo && (!(xFrom.toList == xTo.toList) && (inB xYear 0 2100 && (inB xDoubt 0 1000))))

set_option maxHeartbeats 800000 in
set_option maxRecDepth 100000 in
theorem deedValid_ok (xFrom : ByteArray) (xTo : ByteArray) (xYear : Int) (xDoubt : Int) (w : World) (hsFrom : xFrom.size ≤ maxLen) (hsTo : xTo.size ≤ maxLen) :
    Calls Tryd.prog 127 #[.agg #[.string xFrom, .string xTo, .int .i64 xYear, .int .i64 xDoubt]] w fun e w' => e = .returned (.bool (deedB xFrom xTo xYear xDoubt)) ∧ Below w.heap.size w w' := by
  go_enter Tryd.func127, Tryd.ntmps127
  go_wp2_with (first | (go_at_call 114; refine (IsName_ok _ _ (by assumption)).mono ?_; rintro e w' ⟨rfl, rfl⟩) | (go_at_call 155; refine (isYear_ok _ _).mono ?_; rintro e w' ⟨rfl, rfl⟩) | (go_at_call 88; refine (within_ok _ _ _ _).mono ?_; rintro e w' ⟨rfl, rfl⟩))
  all_goals (go_ret; exact ⟨ret_bool (by simp [deedB, *]), below_alloc _ _⟩)

set_option maxHeartbeats 800000 in
set_option maxRecDepth 100000 in
theorem deedOne_ok (xFrom : ByteArray) (xTo : ByteArray) (xYear : Int) (xDoubt : Int) (b o : Nat) (w : World) (hsFrom : xFrom.size ≤ maxLen) (hsTo : xTo.size ≤ maxLen) (k0 : w.cell? ⟨b, o, none⟩ = some (.string xFrom)) (k1 : w.cell? ⟨b, o + 1, none⟩ = some (.string xTo)) (k2 : w.cell? ⟨b, o + 2, none⟩ = some (.int .i64 xYear)) (k3 : w.cell? ⟨b, o + 3, none⟩ = some (.int .i64 xDoubt)) :
    Calls Tryd.prog 75 #[.pointer (some ⟨b, o, none⟩)] w fun e w' => e = .returned (.bool (deedB xFrom xTo xYear xDoubt)) ∧ Below w.heap.size w w' := by
  cases h0 : nameB xFrom
  · have HB := hid (show deedB xFrom xTo xYear xDoubt = false by simp [deedB, h0])
    go_enter Tryd.func75, Tryd.ntmps75
    go_wp2_with fail
    go_quiet (first | (go_at_call 108; with_reducible exact quiet_left (l01Name_eq h0 _ (by assumption))))
    go_wp2_with fail
    go_ret
    exact ⟨ret_bool (HB.out.symm), below_drewN _ _⟩
  cases h1 : nameB xTo
  · have HB := hid (show deedB xFrom xTo xYear xDoubt = false by simp [deedB, h0, h1])
    go_enter Tryd.func75, Tryd.ntmps75
    go_wp2_with fail
    go_quiet (first | (go_at_call 108; with_reducible exact quiet_left (l01Name_eq h0 _ (by assumption))) | (go_at_call 108; with_reducible exact quiet_left (l01Name_eq h1 _ (by assumption))))
    go_wp2_with fail
    go_ret
    exact ⟨ret_bool (HB.out.symm), below_drewN _ _⟩
  cases h2 : (xFrom.toList == xTo.toList)
  rotate_left
  · have HB := hid (show deedB xFrom xTo xYear xDoubt = false by simp [deedB, h0, h1, h2])
    go_enter Tryd.func75, Tryd.ntmps75
    go_wp2_with fail
    go_quiet (first | (go_at_call 108; with_reducible exact quiet_left (l01Name_eq h0 _ (by assumption))) | (go_at_call 108; with_reducible exact quiet_left (l01Name_eq h1 _ (by assumption))))
    go_wp2_with fail
    go_ret
    exact ⟨ret_bool (HB.out.symm), below_drewN _ _⟩
  cases h3 : inB xYear 0 2100
  · have HB := hid (show deedB xFrom xTo xYear xDoubt = false by simp [deedB, h0, h1, h2, h3])
    go_enter Tryd.func75, Tryd.ntmps75
    go_wp2_with fail
    go_quiet (first | (go_at_call 108; with_reducible exact quiet_left (l01Name_eq h0 _ (by assumption))) | (go_at_call 108; with_reducible exact quiet_left (l01Name_eq h1 _ (by assumption))) | (go_at_call 125; with_reducible exact quiet_left (l19Year_eq h3 _)))
    go_wp2_with fail
    go_ret
    exact ⟨ret_bool (HB.out.symm), below_drewN _ _⟩
  obtain ⟨bl3, bu3⟩ := inB_iff.1 h3
  cases h4 : inB xDoubt 0 1000
  · have HB := hid (show deedB xFrom xTo xYear xDoubt = false by simp [deedB, h0, h1, h2, h3, h4])
    go_enter Tryd.func75, Tryd.ntmps75
    go_wp2_with fail
    go_quiet (first | (go_at_call 108; with_reducible exact quiet_left (l01Name_eq h0 _ (by assumption))) | (go_at_call 108; with_reducible exact quiet_left (l01Name_eq h1 _ (by assumption))) | (go_at_call 125; with_reducible exact quiet_left (l19Year_eq h3 _)) | (go_at_call 95; with_reducible exact quiet_left (l00In_eq h4 _)))
    go_wp2_with fail
    go_ret
    exact ⟨ret_bool (HB.out.symm), below_drewN _ _⟩
  obtain ⟨bl4, bu4⟩ := inB_iff.1 h4
  have HB := hid (show deedB xFrom xTo xYear xDoubt = true by simp [deedB, h0, h1, h2, h3, h4])
  go_enter Tryd.func75, Tryd.ntmps75
  go_wp2_with fail
  go_quiet (first | (go_at_call 108; with_reducible exact quiet_left (l01Name_eq h0 _ (by assumption))) | (go_at_call 108; with_reducible exact quiet_left (l01Name_eq h1 _ (by assumption))) | (go_at_call 125; with_reducible exact quiet_left (l19Year_eq h3 _)) | (go_at_call 95; with_reducible exact quiet_left (l00In_eq h4 _)))
  go_wp2_with fail
  go_ret
  exact ⟨ret_bool (HB.out.symm), below_drewN _ _⟩

end Go.Proofs.YtmfadjdpbobfhaaDoor
