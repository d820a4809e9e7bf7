/- Part: impl's and spec's test of one. -/
import Derived.Test.YtmfadjdpbobfhaaDoorHas
import Derived.Test.YtmfadjdpbobfhaaDoorRange
import Derived.Test.YtmfadjdpbobfhaaDoorListMath
namespace Go.Proofs.YtmfadjdpbobfhaaDoor
open Go.RowKit
set_option linter.unusedVariables false

def partB (id : ByteArray) (at_ mass : Int) : Bool := nameB id && (inB at_ 0 8000 && inB mass 1 100000)

theorem partValid_ok (id : ByteArray) (p m : Int) (w : World) (hs : id.size ≤ maxLen) :
    Calls Tryd.prog 87 #[.agg #[.string id, .int .i64 p, .int .i64 m]] w fun e w' => e = .returned (.bool (partB id p m)) ∧ Below w.heap.size w w' := by
  go_enter Tryd.func87, Tryd.ntmps87
  go_wp2_with (first | (go_at_call 114; refine (IsName_ok _ _ hs).mono ?_; rintro e w' ⟨rfl, rfl⟩) | (go_at_call 89; refine (isPlace_ok _ _).mono ?_; rintro e w' ⟨rfl, rfl⟩) | (go_at_call 88; refine (within_ok _ _ _ _).mono ?_; rintro e w' ⟨rfl, rfl⟩))
  all_goals (go_ret; exact ⟨ret_bool (by simp [partB, *]), (Below.refl _ _).alloc (Nat.le_refl _) _⟩)

theorem l11One_ok (id : ByteArray) (p m : Int) (b o : Nat) (w : World) (hs : id.size ≤ maxLen) (c0 : w.cell? ⟨b, o, none⟩ = some (.string id)) (c1 : w.cell? ⟨b, o + 1, none⟩ = some (.int .i64 p)) (c2 : w.cell? ⟨b, o + 2, none⟩ = some (.int .i64 m)) :
    Calls Tryd.prog 72 #[.pointer (some ⟨b, o, none⟩)] w fun e w' => e = .returned (.bool (partB id p m)) ∧ w = w' := by
  go_enter Tryd.func72, Tryd.ntmps72
  go_wp2_with (first | (go_at_call 108; refine (l01Name_ok _ _ hs).mono ?_; rintro e w' ⟨rfl, rfl⟩) | (go_at_call 121; refine (l11At_ok _ _).mono ?_; rintro e w' ⟨rfl, rfl⟩) | (go_at_call 95; refine (l00In_ok _ _ _ _).mono ?_; rintro e w' ⟨rfl, rfl⟩))
  all_goals (go_ret; exact ⟨ret_bool (by simp [partB, *]), rfl⟩)

/-- the text of a part -/
def partT (id : ByteArray) (p m : Int) : ByteArray := id ++ ⟨#[32]⟩ ++ dec m ++ ⟨#[64]⟩ ++ dec p

end Go.Proofs.YtmfadjdpbobfhaaDoor
