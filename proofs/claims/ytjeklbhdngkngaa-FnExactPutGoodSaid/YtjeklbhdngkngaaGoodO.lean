/- Good: impl's and spec's test of one. -/
import Derived.Test.YtjeklbhdngkngaaHas
import Derived.Test.YtjeklbhdngkngaaRange
namespace Go.Proofs.Ytjeklbhdngkngaa
open Go.RowKit
set_option linter.unusedVariables false

def goodB (xId : ByteArray) (xCount : Int) (xLeast : Int) (xPrice : Int) : Bool := nameB xId && (inB xCount 0 100000 && (inB xLeast 0 100000 && (inB xPrice 0 10000000)))

set_option maxHeartbeats 800000 in
set_option maxRecDepth 100000 in
theorem goodValid_ok (xId : ByteArray) (xCount : Int) (xLeast : Int) (xPrice : Int) (w : World) (hsId : xId.size ≤ maxLen) :
    Calls Try.prog 119 #[.agg #[.string xId, .int .i64 xCount, .int .i64 xLeast, .int .i64 xPrice]] w fun e w' => e = .returned (.bool (goodB xId xCount xLeast xPrice)) ∧ Below w.heap.size w w' := by
  go_enter Try.func119, Try.ntmps119
  go_wp2_with (first | (go_at_call 131; refine (IsName_ok _ _ (by assumption)).mono ?_; rintro e w' ⟨rfl, rfl⟩) | (go_at_call 150; refine (isPieces_ok _ _).mono ?_; rintro e w' ⟨rfl, rfl⟩) | (go_at_call 143; refine (isMoney_ok _ _).mono ?_; rintro e w' ⟨rfl, rfl⟩))
  all_goals (go_ret; exact ⟨ret_bool (by simp [goodB, *]), below_alloc _ _⟩)

set_option maxRecDepth 100000 in
theorem goodOne_ok (xId : ByteArray) (xCount : Int) (xLeast : Int) (xPrice : Int) (b o : Nat) (w : World) (hsId : xId.size ≤ maxLen) (k0 : w.cell? ⟨b, o, none⟩ = some (.string xId)) (k1 : w.cell? ⟨b, o + 1, none⟩ = some (.int .i64 xCount)) (k2 : w.cell? ⟨b, o + 2, none⟩ = some (.int .i64 xLeast)) (k3 : w.cell? ⟨b, o + 3, none⟩ = some (.int .i64 xPrice)) :
    Calls Try.prog 116 #[.pointer (some ⟨b, o, none⟩)] w fun e w' => e = .returned (.bool (goodB xId xCount xLeast xPrice)) ∧ Below w.heap.size w w' := by
  go_enter Try.func116, Try.ntmps116
  go_wp2_with (first | (go_at_call 147; refine (l01Name_ok _ _ (by assumption)).mono ?_; rintro e w' ⟨rfl, rfl⟩) | (go_at_call 148; refine (l26Count_ok _ _).mono ?_; rintro e w' ⟨rfl, rfl⟩) | (go_at_call 149; refine (l21Money_ok _ _).mono ?_; rintro e w' ⟨rfl, rfl⟩))
  all_goals (go_ret; exact ⟨ret_bool (by simp [goodB, *]), Below.refl _ _⟩)

end Go.Proofs.Ytjeklbhdngkngaa
