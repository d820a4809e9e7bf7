/- Visit: impl's and spec's test of one. -/
import Derived.Test.YtjeklbhdngkngaaHas
import Derived.Test.YtjeklbhdngkngaaRange
namespace Go.Proofs.Ytjeklbhdngkngaa
open Go.RowKit
set_option linter.unusedVariables false

def visitB (xDay : Int) (xWho : ByteArray) (xKind : Int) (xAmount : Int) : Bool := inB xDay 0 100000 && (nameB xWho && (inB xKind 1 4 && (inB xAmount 0 10000000)))

set_option maxHeartbeats 800000 in
set_option maxRecDepth 100000 in
theorem visitValid_ok (xDay : Int) (xWho : ByteArray) (xKind : Int) (xAmount : Int) (w : World) (hsWho : xWho.size ≤ maxLen) :
    Calls Try.prog 110 #[.agg #[.int .i64 xDay, .string xWho, .int .i64 xKind, .int .i64 xAmount]] w fun e w' => e = .returned (.bool (visitB xDay xWho xKind xAmount)) ∧ Below w.heap.size w w' := by
  go_enter Try.func110, Try.ntmps110
  go_wp2_with (first | (go_at_call 111; refine (isRentDay_ok _ _).mono ?_; rintro e w' ⟨rfl, rfl⟩) | (go_at_call 131; refine (IsName_ok _ _ (by assumption)).mono ?_; rintro e w' ⟨rfl, rfl⟩) | (go_at_call 77; refine (within_ok _ _ _ _).mono ?_; rintro e w' ⟨rfl, rfl⟩) | (go_at_call 143; refine (isMoney_ok _ _).mono ?_; rintro e w' ⟨rfl, rfl⟩))
  all_goals (go_ret; exact ⟨ret_bool (by simp [visitB, *]), below_alloc _ _⟩)

set_option maxRecDepth 100000 in
theorem visitOne_ok (xDay : Int) (xWho : ByteArray) (xKind : Int) (xAmount : Int) (b o : Nat) (w : World) (hsWho : xWho.size ≤ maxLen) (k0 : w.cell? ⟨b, o, none⟩ = some (.int .i64 xDay)) (k1 : w.cell? ⟨b, o + 1, none⟩ = some (.string xWho)) (k2 : w.cell? ⟨b, o + 2, none⟩ = some (.int .i64 xKind)) (k3 : w.cell? ⟨b, o + 3, none⟩ = some (.int .i64 xAmount)) :
    Calls Try.prog 137 #[.pointer (some ⟨b, o, none⟩)] w fun e w' => e = .returned (.bool (visitB xDay xWho xKind xAmount)) ∧ Below w.heap.size w w' := by
  go_enter Try.func137, Try.ntmps137
  go_wp2_with (first | (go_at_call 160; refine (l21Day_ok _ _).mono ?_; rintro e w' ⟨rfl, rfl⟩) | (go_at_call 147; refine (l01Name_ok _ _ (by assumption)).mono ?_; rintro e w' ⟨rfl, rfl⟩) | (go_at_call 161; refine (l22Kind_ok _ _).mono ?_; rintro e w' ⟨rfl, rfl⟩) | (go_at_call 149; refine (l21Money_ok _ _).mono ?_; rintro e w' ⟨rfl, rfl⟩))
  all_goals (go_ret; exact ⟨ret_bool (by simp [visitB, *]), Below.refl _ _⟩)

end Go.Proofs.Ytjeklbhdngkngaa
