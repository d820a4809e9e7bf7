/- States: equality of settings, as the walk meets it. -/
import Derived.Test.YtjeklbhdngkngaaStNames
namespace Go.Proofs.Ytjeklbhdngkngaa
open Go.RowKit
set_option linter.unusedVariables false

def eqF (a b : ByteArray) (x y : Int) : Bool := a.toList == b.toList && x == y
@[go_sem] theorem eqSet_run (a b : ByteArray) (x y : Int) (w : World) : (Op.equalIn 10000 95 (.agg #[.string a, .int .i64 x]) (.agg #[.string b, .int .i64 y])).run Try.prog w = .ok (eqF a b x y) w := by
  have u3 := Try.underlying2
  have u9 := Try.underlying9
  have a3 := Try.isAgg2
  have z3 := Try.sizeOf2
  have a9 := Try.isAgg9
  have z9 := Try.sizeOf9
  have hS : Try.prog.underlying 95 = some (.struct (Try.prog.fieldsOf 95)) := by kernel_rfl
  have hp : Try.prog.stoodInHeld 95 = false := by kernel_rfl
  rw [show (10000 : Nat) = 9999 + 1 from rfl, run_equalIn_agg w 9999 95 _ _ hS hp]
  simp only [Program.fieldsOf, Try.underlying95]
  unfold eqF
  go_simp
  by_cases h1 : a.toList = b.toList <;> by_cases h2 : x = y <;> simp [h1, h2]
@[go_sem] theorem eqSet_guard (op : BinOp) (x y : Operand) (xs ys : Array Value) (w : World) : (eqGuard op 95 x y (.agg xs) (.agg ys)).run Try.prog w = .ok () w := run_eqGuard_agg w op 95 x y xs ys (by kernel_rfl)
theorem eqF_get {xs ys : List DSetting} {z : Str} (hx : StateTo xs xs.length) (hy : StateTo ys ys.length) : eqF (getN xs z).fName (getN ys z).fName (getN xs z).fValue (getN ys z).fValue = (valN xs z == valN ys z) := by
  rw [Bool.eq_iff_iff, beq_iff_eq, ← get_val hx hy]
  unfold eqF
  rw [Bool.and_eq_true, beq_iff_eq, beq_iff_eq]
  constructor
  · rintro ⟨h1, h2⟩
    cases h3 : getN xs z with
    | mk a1 x1 =>
      cases h4 : getN ys z with
      | mk a2 x2 =>
        rw [h3, h4] at h1 h2
        simp only at h1 h2
        rw [Lib.toList_data, Lib.toList_data] at h1
        rw [h2, ← tB_data a1, h1, tB_data]
  · intro h
    rw [h]
    exact ⟨rfl, rfl⟩

end Go.Proofs.Ytjeklbhdngkngaa
