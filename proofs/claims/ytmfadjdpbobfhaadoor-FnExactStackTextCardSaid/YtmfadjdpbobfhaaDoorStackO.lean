/- Stack: impl's and spec's test of one. -/
import Derived.Test.YtmfadjdpbobfhaaDoorHas
import Derived.Test.YtmfadjdpbobfhaaDoorRange
namespace Go.Proofs.YtmfadjdpbobfhaaDoor
open Go.RowKit
set_option linter.unusedVariables false

def stackB (xId : ByteArray) (xMoisture : Int) (xThick : Int) (xSince : Int) : Bool := nameB xId && (inB xMoisture 0 1000 && (inB xThick 10 1000 && (inB xSince 0 36524)))

set_option maxHeartbeats 800000 in
set_option maxRecDepth 100000 in
theorem stackValid_ok (xId : ByteArray) (xMoisture : Int) (xThick : Int) (xSince : Int) (w : World) (hsId : xId.size ≤ maxLen) :
    Calls Tryd.prog 67 #[.agg #[.string xId, .int .i64 xMoisture, .int .i64 xThick, .int .i64 xSince]] w fun e w' => e = .returned (.bool (stackB xId xMoisture xThick xSince)) ∧ Below w.heap.size w w' := by
  go_enter Tryd.func67, Tryd.ntmps67
  go_wp2_with (first | (go_at_call 114; refine (IsName_ok _ _ (by assumption)).mono ?_; rintro e w' ⟨rfl, rfl⟩) | (go_at_call 115; refine (isPart_ok _ _).mono ?_; rintro e w' ⟨rfl, rfl⟩) | (go_at_call 88; refine (within_ok _ _ _ _).mono ?_; rintro e w' ⟨rfl, rfl⟩) | (go_at_call 116; refine (isDay_ok _ _).mono ?_; rintro e w' ⟨rfl, rfl⟩))
  all_goals (go_ret; exact ⟨ret_bool (by simp [stackB, *]), below_alloc _ _⟩)

set_option maxRecDepth 100000 in
theorem stackOne_ok (xId : ByteArray) (xMoisture : Int) (xThick : Int) (xSince : Int) (b o : Nat) (w : World) (hsId : xId.size ≤ maxLen) (k0 : w.cell? ⟨b, o, none⟩ = some (.string xId)) (k1 : w.cell? ⟨b, o + 1, none⟩ = some (.int .i64 xMoisture)) (k2 : w.cell? ⟨b, o + 2, none⟩ = some (.int .i64 xThick)) (k3 : w.cell? ⟨b, o + 3, none⟩ = some (.int .i64 xSince)) :
    Calls Tryd.prog 65 #[.pointer (some ⟨b, o, none⟩)] w fun e w' => e = .returned (.bool (stackB xId xMoisture xThick xSince)) ∧ Below w.heap.size w w' := by
  go_enter Tryd.func65, Tryd.ntmps65
  go_wp2_with (first | (go_at_call 108; refine (l01Name_ok _ _ (by assumption)).mono ?_; rintro e w' ⟨rfl, rfl⟩) | (go_at_call 109; refine (l04Share_ok _ _).mono ?_; rintro e w' ⟨rfl, rfl⟩) | (go_at_call 110; refine (l04Thick_ok _ _).mono ?_; rintro e w' ⟨rfl, rfl⟩) | (go_at_call 111; refine (l02Day_ok _ _).mono ?_; rintro e w' ⟨rfl, rfl⟩))
  all_goals (go_ret; exact ⟨ret_bool (by simp [stackB, *]), Below.refl _ _⟩)

end Go.Proofs.YtmfadjdpbobfhaaDoor
