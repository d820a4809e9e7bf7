/- The law FnExactReadVisit. -/
import Derived.Test.YtmfadjdpbobfhaaDoorReadVisitI
import Derived.Test.YtmfadjdpbobfhaaDoorReadVisitS
namespace Go.Proofs.YtmfadjdpbobfhaaDoor
open Go.RowKit
set_option linter.unusedVariables false

theorem eqVisit_self (x0 : Int) (x1 : ByteArray) (x2 : Int) (x3 : Int) (w : World) :
    Calls Tryd.prog 32 #[.agg #[.int .i64 x0, .string x1, .int .i64 x2, .int .i64 x3], .agg #[.int .i64 x0, .string x1, .int .i64 x2, .int .i64 x3]] w fun e w' => e = .returned (.bool true) ∧ Below w.heap.size w w' := by
  go_enter Tryd.func32, Tryd.ntmps32
  go_wp2_with fail
  go_ret
  exact ⟨rfl, (below_alloc _ _).alloc (by simp) _⟩

theorem visitRV_form (o : Option (Int × ByteArray × Int × Int)) : ∃ (x0 : Int) (x1 : ByteArray) (x2 : Int) (x3 : Int) (b : Bool), visitRV o = .tuple #[.agg #[.int .i64 x0, .string x1, .int .i64 x2, .int .i64 x3], .bool b] := by
  cases o with
  | none => exact ⟨_, _, _, _, _, rfl⟩
  | some p => exact ⟨_, _, _, _, _, rfl⟩

set_option maxHeartbeats 1600000 in
set_option maxRecDepth 100000 in
theorem lawReadVisit_ok (s : ByteArray) (w : World) (hs : s.size ≤ maxLen) (hR : RdW w) :
    Calls Tryd.prog 8 #[.string s] w fun e w' => e = .returned (.bool true) ∧ Below w.heap.size w w' := by
  by_cases b_s : (1048576 : Int) < s.size
  · unfold maxLen at *
    go_enter Tryd.func8, Tryd.ntmps8
    go_wp2_with fail
    go_ret
    exact ⟨rfl, Below.refl _ _⟩
  have hz : s.size ≤ 1048576 := by omega
  have HR := hid hR
  obtain ⟨x0, x1, x2, x3, b, hp⟩ := visitRV_form (fVisit s.data.toList)
  have HP := hid hp
  clear hR hp
  go_enter Tryd.func8, Tryd.ntmps8
  go_wp2_with fail
  refine (specReadVisit_ok s _ hz).mono ?_
  rintro e w1 ⟨he, hb⟩
  obtain rfl : e = .returned (.tuple #[.agg #[.int .i64 x0, .string x1, .int .i64 x2, .int .i64 x3], .bool b]) := he.trans (by rw [HP.out])
  have HB1 := hid hb
  have HR1 := hid (HR.out.below hb)
  clear he hb
  have HX1 := hid (HasC.new w1 [.int .i64 x0, .string x1, .int .i64 x2, .int .i64 x3] 55)
  have HB2 := hid (below_trans HB1.out (below_alloc w1 (.cells #[.int .i64 x0, .string x1, .int .i64 x2, .int .i64 x3] 55)))
  have HR2 := hid (HR1.out.below (below_alloc w1 (.cells #[.int .i64 x0, .string x1, .int .i64 x2, .int .i64 x3] 55)))
  go_wp2_with fail
  refine (ReadVisit_ok s _ hz HR2.out).mono ?_
  rintro e w2 ⟨he, hb⟩
  obtain rfl : e = .returned (.tuple #[.agg #[.int .i64 x0, .string x1, .int .i64 x2, .int .i64 x3], .bool b]) := he.trans (by rw [HP.out])
  have HX3 := hid ((HX1.out.below hb).below (below_alloc w2 (.cells #[.int .i64 x0, .string x1, .int .i64 x2, .int .i64 x3] 55)))
  have HY3 := hid (HasC.new w2 [.int .i64 x0, .string x1, .int .i64 x2, .int .i64 x3] 55)
  have HB3 := hid (below_trans (below_trans HB2.out hb) (below_alloc w2 (.cells #[.int .i64 x0, .string x1, .int .i64 x2, .int .i64 x3] 55)))
  have c0 := HX3.out.2 0 _ rfl
  have d0 := HY3.out.2 0 _ rfl
  have c1 := HX3.out.2 1 _ rfl
  have d1 := HY3.out.2 1 _ rfl
  have c2 := HX3.out.2 2 _ rfl
  have d2 := HY3.out.2 2 _ rfl
  have c3 := HX3.out.2 3 _ rfl
  have d3 := HY3.out.2 3 _ rfl
  clear he hb
  go_wp2_with (go_at_call 32; refine (eqVisit_self x0 x1 x2 x3 _).mono ?_; rintro e w3 ⟨rfl, hb⟩; have HB4 := hid (below_trans HB3.out hb); clear hb)
  go_ret
  exact ⟨rfl, HB4.out⟩
end Go.Proofs.YtmfadjdpbobfhaaDoor
