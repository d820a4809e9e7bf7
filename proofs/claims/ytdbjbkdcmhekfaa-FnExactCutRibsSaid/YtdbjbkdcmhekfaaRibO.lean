/- Rib: impl's and spec's test of one. -/
import Derived.Test.YtdbjbkdcmhekfaaHas
import Derived.Test.YtdbjbkdcmhekfaaRange
namespace Go.Proofs.Ytdbjbkdcmhekfaa
open Go.RowKit
set_option linter.unusedVariables false

def ribB (xId : ByteArray) (xLength : Int) (xHeight : Int) : Bool := nameB xId && (inB xLength 1 10000 && (inB xHeight 1 10000))

set_option maxHeartbeats 800000 in
set_option maxRecDepth 100000 in
theorem ribValid_ok (xId : ByteArray) (xLength : Int) (xHeight : Int) (w : World) (hsId : xId.size ≤ maxLen) :
    Calls Try.prog 142 #[.agg #[.string xId, .int .i64 xLength, .int .i64 xHeight]] w fun e w' => e = .returned (.bool (ribB xId xLength xHeight)) ∧ Below w.heap.size w w' := by
  go_enter Try.func142, Try.ntmps142
  go_wp2_with (first | (go_at_call 171; refine (IsName_ok _ _ (by assumption)).mono ?_; rintro e w' ⟨rfl, rfl⟩) | (go_at_call 73; refine (within_ok _ _ _ _).mono ?_; rintro e w' ⟨rfl, rfl⟩))
  all_goals (go_ret; exact ⟨ret_bool (by simp [ribB, *]), below_alloc _ _⟩)

set_option maxRecDepth 100000 in
theorem ribOne_ok (xId : ByteArray) (xLength : Int) (xHeight : Int) (b o : Nat) (w : World) (hsId : xId.size ≤ maxLen) (k0 : w.cell? ⟨b, o, none⟩ = some (.string xId)) (k1 : w.cell? ⟨b, o + 1, none⟩ = some (.int .i64 xLength)) (k2 : w.cell? ⟨b, o + 2, none⟩ = some (.int .i64 xHeight)) :
    Calls Try.prog 175 #[.pointer (some ⟨b, o, none⟩)] w fun e w' => e = .returned (.bool (ribB xId xLength xHeight)) ∧ Below w.heap.size w w' := by
  go_enter Try.func175, Try.ntmps175
  go_wp2_with (first | (go_at_call 168; refine (l01Name_ok _ _ (by assumption)).mono ?_; rintro e w' ⟨rfl, rfl⟩) | (go_at_call 194; refine (l06Size_ok _ _).mono ?_; rintro e w' ⟨rfl, rfl⟩))
  all_goals (go_ret; exact ⟨ret_bool (by simp [ribB, *]), Below.refl _ _⟩)

end Go.Proofs.Ytdbjbkdcmhekfaa
