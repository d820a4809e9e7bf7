/- FnOutlines: points and arcs. -/
import Derived.Test.YtdbjbkdcmhekfaaRange
import Derived.Test.YtdbjbkdcmhekfaaRowsArg
import Derived.Test.YtdbjbkdcmhekfaaHas
import Derived.Test.YtdbjbkdcmhekfaaRowsKit
namespace Go.Proofs.Ytdbjbkdcmhekfaa
open Go.RowKit
set_option linter.unusedVariables false

structure DArc where
  cx : Int
  cy : Int
  fx : Int
  fy : Int
  tx : Int
  ty : Int
def DArc.cells (x : DArc) : List Value := [.int .i64 x.cx, .int .i64 x.cy, .int .i64 x.fx, .int .i64 x.fy, .int .i64 x.tx, .int .i64 x.ty]
theorem cellsArc_len (xs : List DArc) : ∀ c ∈ xs.map DArc.cells, c.length = 6 := fun c hc => by
  obtain ⟨x, _, rfl⟩ := List.mem_map.1 hc
  rfl
/-- a coordinate that is not large -/
def InC (a : Int) : Prop := -10000 ≤ a ∧ a ≤ 10000
def sqI (a b c d : Int) : Int := (a - c) * (a - c) + (b - d) * (b - d)
theorem mulB {a b : Int} {M : Nat} (ha : -(M : Int) ≤ a ∧ a ≤ M) (hb : -(M : Int) ≤ b ∧ b ≤ M) : -((M * M : Nat) : Int) ≤ a * b ∧ a * b ≤ ((M * M : Nat) : Int) := by
  have h1 : a.natAbs ≤ M := by omega
  have h2 : b.natAbs ≤ M := by omega
  have h3 : (a * b).natAbs ≤ M * M := by rw [Int.natAbs_mul]; exact Nat.mul_le_mul h1 h2
  omega
structure ArcB (x : DArc) : Prop where
  cx : InC x.cx
  cy : InC x.cy
  fx : InC x.fx
  fy : InC x.fy
  tx : InC x.tx
  ty : InC x.ty
structure ArcOk (x : DArc) : Prop where
  bd : ArcB x
  two : ¬ (x.fx = x.tx ∧ x.fy = x.ty)
  one : sqI x.cx x.cy x.fx x.fy = sqI x.cx x.cy x.tx x.ty
def smB (x y : DArc) : Bool := (x.cx - x.tx) * (y.cy - x.ty) == (x.cy - x.ty) * (y.cx - x.tx)

set_option maxHeartbeats 1600000 in
set_option maxRecDepth 100000 in
theorem squared_ok (a b c d : Int) (w : World) (ha : InC a) (hb : InC b) (hc : InC c) (hd : InC d) :
    Calls Try.prog 126 #[.agg #[.int .i64 a, .int .i64 b], .agg #[.int .i64 c, .int .i64 d]] w fun e w' => e = .returned (.int .i64 (sqI a b c d)) ∧ Below w.heap.size w w' := by
  unfold InC at *
  have v1 : IntKind.i64.wrap (a - c) = a - c := IntWalk.i64_in _ (by omega)
  have v2 : IntKind.i64.wrap (b - d) = b - d := IntWalk.i64_in _ (by omega)
  have p3 := mulB (a := a - c) (b := a - c) (M := 40000) (by omega) (by omega)
  have v3 : IntKind.i64.wrap ((a - c) * (a - c)) = (a - c) * (a - c) := IntWalk.i64_in _ (by omega)
  have p4 := mulB (a := b - d) (b := b - d) (M := 40000) (by omega) (by omega)
  have v4 : IntKind.i64.wrap ((b - d) * (b - d)) = (b - d) * (b - d) := IntWalk.i64_in _ (by omega)
  have v5 : IntKind.i64.wrap ((a - c) * (a - c) + (b - d) * (b - d)) = (a - c) * (a - c) + (b - d) * (b - d) := IntWalk.i64_in _ (by omega)
  clear ha hb hc hd p3 p4
  go_enter Try.func126, Try.ntmps126
  go_wp2_with fail
  go_ret
  exact ⟨rfl, by repeat (first | refine Below.drew ?_ | exact Below.refl _ _ | exact below_alloc _ _ | refine Below.alloc ?_ (by simp <;> omega) _ | refine Below.setCell ?_ (by simp <;> omega) _)⟩

set_option maxHeartbeats 1600000 in
set_option maxRecDepth 100000 in
theorem l05Square_ok (a b c d : Int) (w : World) (ha : InC a) (hb : InC b) (hc : InC c) (hd : InC d) :
    Calls Try.prog 128 #[.agg #[.int .i64 a, .int .i64 b], .agg #[.int .i64 c, .int .i64 d]] w fun e w' => e = .returned (.int .i64 (sqI a b c d)) ∧ Below w.heap.size w w' := by
  unfold InC at *
  have v1 : IntKind.i64.wrap (a - c) = a - c := IntWalk.i64_in _ (by omega)
  have v2 : IntKind.i64.wrap (b - d) = b - d := IntWalk.i64_in _ (by omega)
  have p3 := mulB (a := a - c) (b := a - c) (M := 40000) (by omega) (by omega)
  have v3 : IntKind.i64.wrap ((a - c) * (a - c)) = (a - c) * (a - c) := IntWalk.i64_in _ (by omega)
  have p4 := mulB (a := b - d) (b := b - d) (M := 40000) (by omega) (by omega)
  have v4 : IntKind.i64.wrap ((b - d) * (b - d)) = (b - d) * (b - d) := IntWalk.i64_in _ (by omega)
  have v5 : IntKind.i64.wrap ((a - c) * (a - c) + (b - d) * (b - d)) = (a - c) * (a - c) + (b - d) * (b - d) := IntWalk.i64_in _ (by omega)
  clear ha hb hc hd p3 p4
  go_enter Try.func128, Try.ntmps128
  go_wp2_with fail
  go_ret
  exact ⟨rfl, by repeat (first | refine Below.drew ?_ | exact Below.refl _ _ | exact below_alloc _ _ | refine Below.alloc ?_ (by simp <;> omega) _ | refine Below.setCell ?_ (by simp <;> omega) _)⟩

set_option maxHeartbeats 1600000 in
set_option maxRecDepth 100000 in
theorem isCoord_ok (a : Int) (w : World) (ha : InC a) : Calls Try.prog 120 #[.int .i64 a] w fun e w' => e = .returned (.bool true) ∧ w = w' := by
  have c1 : inB a (-100000) 100000 = true := inB_iff.2 (by unfold InC at ha; omega)
  clear ha
  go_enter Try.func120, Try.ntmps120
  go_wp2_with fail
  refine (within_ok _ _ _ _).mono ?_
  rintro e w' ⟨rfl, rfl⟩
  rw [c1]
  go_wp2_with fail
  go_ret
  exact ⟨rfl, rfl⟩

set_option maxHeartbeats 1600000 in
set_option maxRecDepth 100000 in
theorem pointV_ok (a b : Int) (w : World) (ha : InC a) (hb : InC b) :
    Calls Try.prog 166 #[.agg #[.int .i64 a, .int .i64 b]] w fun e w' => e = .returned (.bool true) ∧ Below w.heap.size w w' := by
  have c1 : inB a (-100000) 100000 = true := inB_iff.2 (by unfold InC at ha; omega)
  have c2 : inB b (-100000) 100000 = true := inB_iff.2 (by unfold InC at hb; omega)
  go_enter Try.func166, Try.ntmps166
  go_wp2_with ((go_at_call 120; refine (isCoord_ok _ _ (by assumption)).mono ?_; rintro e w' ⟨rfl, rfl⟩; first | rw [c1] | rw [c2] | skip))
  go_ret
  exact ⟨rfl, by repeat (first | refine Below.drew ?_ | exact Below.refl _ _ | exact below_alloc _ _ | refine Below.alloc ?_ (by simp <;> omega) _ | refine Below.setCell ?_ (by simp <;> omega) _)⟩

set_option maxHeartbeats 1600000 in
set_option maxRecDepth 100000 in
theorem l05Point_ok (a b : Int) (w : World) (ha : InC a) (hb : InC b) :
    Calls Try.prog 167 #[.agg #[.int .i64 a, .int .i64 b]] w fun e w' => e = .returned (.bool true) ∧ Below w.heap.size w w' := by
  have c1 : inB a (-100000) 100000 = true := inB_iff.2 (by unfold InC at ha; omega)
  have c2 : inB b (-100000) 100000 = true := inB_iff.2 (by unfold InC at hb; omega)
  clear ha hb
  go_enter Try.func167, Try.ntmps167
  go_wp2_with ((go_at_call 69; refine (l00In_ok _ _ _ _).mono ?_; rintro e w' ⟨rfl, rfl⟩; first | rw [c1] | rw [c2]))
  go_ret
  exact ⟨rfl, by repeat (first | refine Below.drew ?_ | exact Below.refl _ _ | exact below_alloc _ _ | refine Below.alloc ?_ (by simp <;> omega) _ | refine Below.setCell ?_ (by simp <;> omega) _)⟩

set_option maxHeartbeats 1600000 in
set_option maxRecDepth 100000 in
theorem moved_ok (a b x y : Int) (ha : InC a) (hb : InC b) (hx : InC x) (hy : InC y) (w : World) :
    Calls Try.prog 121 #[.agg #[.int .i64 a, .int .i64 b], .int .i64 x, .int .i64 y] w fun e w' => e = .returned (.agg #[.int .i64 (a + x), .int .i64 (b + y)]) ∧ Below w.heap.size w w' := by
  unfold InC at *
  have v1 : IntKind.i64.wrap (a + x) = a + x := IntWalk.i64_in _ (by omega)
  have v2 : IntKind.i64.wrap (b + y) = b + y := IntWalk.i64_in _ (by omega)
  go_enter Try.func121, Try.ntmps121
  go_wp2_with fail
  exact bodyPost_ret (v := .agg #[.int .i64 (a + x), .int .i64 (b + y)]) (by simp [results, Try.results121, go_sem]) rfl ⟨rfl, by repeat (first | refine Below.drew ?_ | exact Below.refl _ _ | exact below_alloc _ _ | refine Below.alloc ?_ (by simp <;> omega) _ | refine Below.setCell ?_ (by simp <;> omega) _)⟩

set_option maxHeartbeats 1600000 in
set_option maxRecDepth 100000 in
theorem mirrored_ok (a b : Int) (ha : InC a) (hb : InC b) (w : World) :
    Calls Try.prog 122 #[.agg #[.int .i64 a, .int .i64 b]] w fun e w' => e = .returned (.agg #[.int .i64 (-a), .int .i64 b]) ∧ Below w.heap.size w w' := by
  unfold InC at *
  have v1 : IntKind.i64.wrap (-a) = -a := IntWalk.i64_in _ (by omega)
  go_enter Try.func122, Try.ntmps122
  go_wp2_with fail
  exact bodyPost_ret (v := .agg #[.int .i64 (-a), .int .i64 b]) (by simp [results, Try.results122, go_sem]) rfl ⟨rfl, by repeat (first | refine Below.drew ?_ | exact Below.refl _ _ | exact below_alloc _ _ | refine Below.alloc ?_ (by simp <;> omega) _ | refine Below.setCell ?_ (by simp <;> omega) _)⟩

set_option maxHeartbeats 1600000 in
set_option maxRecDepth 100000 in
theorem l05Flip_ok (a b : Int) (ha : InC a) (hb : InC b) (w : World) :
    Calls Try.prog 129 #[.agg #[.int .i64 a, .int .i64 b]] w fun e w' => e = .returned (.agg #[.int .i64 (-a), .int .i64 b]) ∧ Below w.heap.size w w' := by
  unfold InC at *
  have v1 : IntKind.i64.wrap (-a) = -a := IntWalk.i64_in _ (by omega)
  go_enter Try.func129, Try.ntmps129
  go_wp2_with fail
  exact bodyPost_ret (v := .agg #[.int .i64 (-a), .int .i64 b]) (by simp [results, Try.results129, go_sem]) rfl ⟨rfl, by repeat (first | refine Below.drew ?_ | exact Below.refl _ _ | exact below_alloc _ _ | refine Below.alloc ?_ (by simp <;> omega) _ | refine Below.setCell ?_ (by simp <;> omega) _)⟩

set_option maxHeartbeats 1600000 in
set_option maxRecDepth 100000 in
theorem l05Arc_ok (a b c d e f : Int) (w : World) :
    Calls Try.prog 164 #[.int .i64 a, .int .i64 b, .int .i64 c, .int .i64 d, .int .i64 e, .int .i64 f] w fun e9 w' => e9 = .returned (.agg #[.int .i64 a, .int .i64 b, .int .i64 c, .int .i64 d, .int .i64 e, .int .i64 f]) ∧ Below w.heap.size w w' := by
  go_enter Try.func164, Try.ntmps164
  go_wp2_with fail
  exact bodyPost_ret (v := .agg #[.int .i64 a, .int .i64 b, .int .i64 c, .int .i64 d, .int .i64 e, .int .i64 f]) (by simp [results, Try.results164, go_sem]) rfl ⟨rfl, by repeat (first | refine Below.drew ?_ | exact Below.refl _ _ | exact below_alloc _ _ | refine Below.alloc ?_ (by simp <;> omega) _ | refine Below.setCell ?_ (by simp <;> omega) _)⟩

set_option maxHeartbeats 1600000 in
set_option maxRecDepth 100000 in
theorem smooth_ok (x y : DArc) (w : World) (hx : ArcB x) (hy : ArcB y) :
    Calls Try.prog 118 #[.agg #[.int .i64 x.cx, .int .i64 x.cy, .int .i64 x.fx, .int .i64 x.fy, .int .i64 x.tx, .int .i64 x.ty], .agg #[.int .i64 y.cx, .int .i64 y.cy, .int .i64 y.fx, .int .i64 y.fy, .int .i64 y.tx, .int .i64 y.ty]] w fun e w' => e = .returned (.bool (smB x y)) ∧ Below w.heap.size w w' := by
  obtain ⟨h1, h2, h3, h4, h5, h6⟩ := hx
  obtain ⟨g1, g2, g3, g4, g5, g6⟩ := hy
  unfold InC at *
  have v1 : IntKind.i64.wrap (x.cx - x.tx) = x.cx - x.tx := IntWalk.i64_in _ (by omega)
  have v2 : IntKind.i64.wrap (y.cy - x.ty) = y.cy - x.ty := IntWalk.i64_in _ (by omega)
  have v3 : IntKind.i64.wrap (x.cy - x.ty) = x.cy - x.ty := IntWalk.i64_in _ (by omega)
  have v4 : IntKind.i64.wrap (y.cx - x.tx) = y.cx - x.tx := IntWalk.i64_in _ (by omega)
  have p5 := mulB (a := x.cx - x.tx) (b := y.cy - x.ty) (M := 40000) (by omega) (by omega)
  have v5 : IntKind.i64.wrap ((x.cx - x.tx) * (y.cy - x.ty)) = (x.cx - x.tx) * (y.cy - x.ty) := IntWalk.i64_in _ (by omega)
  have p6 := mulB (a := x.cy - x.ty) (b := y.cx - x.tx) (M := 40000) (by omega) (by omega)
  have v6 : IntKind.i64.wrap ((x.cy - x.ty) * (y.cx - x.tx)) = (x.cy - x.ty) * (y.cx - x.tx) := IntWalk.i64_in _ (by omega)
  clear h1 h2 h3 h4 h5 h6 g1 g2 g3 g4 g5 g6 p5 p6
  go_enter Try.func118, Try.ntmps118
  go_wp2_with fail
  go_ret
  exact ⟨rfl, by repeat (first | refine Below.drew ?_ | exact Below.refl _ _ | exact below_alloc _ _ | refine Below.alloc ?_ (by simp <;> omega) _ | refine Below.setCell ?_ (by simp <;> omega) _)⟩

end Go.Proofs.Ytdbjbkdcmhekfaa
