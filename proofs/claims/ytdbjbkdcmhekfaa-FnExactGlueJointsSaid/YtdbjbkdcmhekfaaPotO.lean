/- Pot: impl's and spec's test of one. -/
import Derived.Test.YtdbjbkdcmhekfaaHas
import Derived.Test.YtdbjbkdcmhekfaaRange
namespace Go.Proofs.Ytdbjbkdcmhekfaa
open Go.RowKit
set_option linter.unusedVariables false

def potB (xId : ByteArray) (xDry : Int) (xWater : Int) (xHeat : Int) (xHours : Int) : Bool := nameB xId && (inB xDry 1 10000 && (inB xWater 1 10000 && (inB xHeat 20 95 && (inB xHours 0 1000))))

set_option maxHeartbeats 800000 in
set_option maxRecDepth 100000 in
theorem potValid_ok (xId : ByteArray) (xDry : Int) (xWater : Int) (xHeat : Int) (xHours : Int) (w : World) (hsId : xId.size ≤ maxLen) :
    Calls Try.prog 159 #[.agg #[.string xId, .int .i64 xDry, .int .i64 xWater, .int .i64 xHeat, .int .i64 xHours]] w fun e w' => e = .returned (.bool (potB xId xDry xWater xHeat xHours)) ∧ Below w.heap.size w w' := by
  go_enter Try.func159, Try.ntmps159
  go_wp2_with (first | (go_at_call 171; refine (IsName_ok _ _ (by assumption)).mono ?_; rintro e w' ⟨rfl, rfl⟩) | (go_at_call 160; refine (isGrams_ok _ _).mono ?_; rintro e w' ⟨rfl, rfl⟩) | (go_at_call 188; refine (isHeat_ok _ _).mono ?_; rintro e w' ⟨rfl, rfl⟩) | (go_at_call 73; refine (within_ok _ _ _ _).mono ?_; rintro e w' ⟨rfl, rfl⟩))
  all_goals (go_ret; exact ⟨ret_bool (by simp [potB, *]), below_alloc _ _⟩)

set_option maxRecDepth 100000 in
theorem potOne_ok (xId : ByteArray) (xDry : Int) (xWater : Int) (xHeat : Int) (xHours : Int) (b o : Nat) (w : World) (hsId : xId.size ≤ maxLen) (k0 : w.cell? ⟨b, o, none⟩ = some (.string xId)) (k1 : w.cell? ⟨b, o + 1, none⟩ = some (.int .i64 xDry)) (k2 : w.cell? ⟨b, o + 2, none⟩ = some (.int .i64 xWater)) (k3 : w.cell? ⟨b, o + 3, none⟩ = some (.int .i64 xHeat)) (k4 : w.cell? ⟨b, o + 4, none⟩ = some (.int .i64 xHours)) :
    Calls Try.prog 156 #[.pointer (some ⟨b, o, none⟩)] w fun e w' => e = .returned (.bool (potB xId xDry xWater xHeat xHours)) ∧ Below w.heap.size w w' := by
  go_enter Try.func156, Try.ntmps156
  go_wp2_with (first | (go_at_call 168; refine (l01Name_ok _ _ (by assumption)).mono ?_; rintro e w' ⟨rfl, rfl⟩) | (go_at_call 157; refine (l14Grams_ok _ _).mono ?_; rintro e w' ⟨rfl, rfl⟩) | (go_at_call 186; refine (l14Heat_ok _ _).mono ?_; rintro e w' ⟨rfl, rfl⟩) | (go_at_call 69; refine (l00In_ok _ _ _ _).mono ?_; rintro e w' ⟨rfl, rfl⟩))
  all_goals (go_ret; exact ⟨ret_bool (by simp [potB, *]), Below.refl _ _⟩)

end Go.Proofs.Ytdbjbkdcmhekfaa
