/- The program's PlaceWorks returns what the reference's returns, for all arguments. -/
import Derived.Test.YtdbjbkdcmhekfaaRows
import Derived.Test.YtdbjbkdcmhekfaaPlcLaw
import Derived.Test.YtdbjbkdcmhekfaaLawKit
import Derived.Test.YtdbjbkdcmhekfaaArgs
import Derived.Test.YtdbjbkdcmhekfaaRowsArg
import Derived.JoinedCond
namespace Go.Proofs.Ytdbjbkdcmhekfaa.fnPlc
open Go.ChangeShapes Go.WideShapes Go.ChangeAt Go.RowKit Go.Deep
set_option linter.unusedVariables false

theorem own : ownKnob Try.prog.godebug = none := by kernel_rfl
theorem cellsWork : Try.prog.cellsOf 130 = 4 := by kernel_rfl

set_option maxRecDepth 100000 in
theorem contract (H : Type) (enc : TypeId × Value → H) (W : World) (base : Nat) (args : Array Value) (ds gs : List (DataW H)) (before : List MemPlace)
    (hval : ∀ (j : Nat) t v, Try.f5.params[j]? = some t → args[j]? = some v → Value.okWide Try.prog W .any base t v)
    (hW : DataW.Whole enc Try.prog Try.f5.params.toList Rows.fnExactPlaceWorksSpec.vars false W args.toList ds gs before) :
    Calls Try.prog 5 args W fun e W' => ∃ v, e = .returned v ∧ Rows.fnExactPlaceWorksSpec.post enc Try.prog Try.f5 false true false false W args v W' := by
  have hW' := hW
  obtain ⟨p, q, hA0, hV, rfl, hfz, hnd⟩ := hW
  have hA : DataW.TrodAll enc Try.prog W 0 (fun _ => true) true Try.f5.params.toList args.toList ds p := hA0
  rw [Try.params5] at hA hval
  obtain ⟨v0, vs0, d0, ds0, p0, q0, hargs, rfl, rfl, h0, r0⟩ := trodAll_cons hA
  obtain ⟨v1, vs1, d1, ds1, p1, q1, rfl, rfl, rfl, h1, r1⟩ := trodAll_cons r0
  obtain ⟨v2, vs2, d2, ds2, p2, q2, rfl, rfl, rfl, h2, r2⟩ := trodAll_cons r1
  obtain ⟨rfl, rfl, rfl⟩ := trodAll_nil r2
  obtain rfl : args = #[v0, v1, v2] := by cases args; simp_all
  clear hA0
  obtain ⟨m, rfl, rfl, rfl, w0⟩ := open_int Try.underlying2 (hval 0 2 v0 rfl rfl) h0
  have rng_m : -9223372036854775808 ≤ m ∧ m ≤ 9223372036854775807 := by simpa [Lit.wf, IntKind.min, IntKind.max, IntKind.signed, IntKind.bits] using w0
  obtain ⟨a1, l1, q1, rfl⟩ := okWide_slice Try.underlying42 (hval 1 42 v1 rfl rfl)
  obtain ⟨f1, g1⟩ := h1
  obtain ⟨A1, k1, css1, e1, hn1, hR1, hr1⟩ := rows_arg Try.underlying42 cellsWork (by omega) g1
  obtain ⟨xs, rfl, hok1⟩ := all_map (f := DWork.cells) (q := DWork.ok) (l := css1) (fun r hr => by
    obtain ⟨hl, y, m, hy⟩ := hr1 r hr
    obtain ⟨m1, hfs⟩ := trod_fields Try.underlying130 (by kernel_rfl) hy
    match r, hl with
    | [u0, u1, u2, u3], _ =>
      obtain ⟨y0, t0⟩ := hfs 0 _ rfl
      obtain ⟨b0, i0, rfl, j0⟩ := DataW.trod_string (cs := [u0]) Try.underlying9 t0
      obtain ⟨y1, t1⟩ := hfs 1 _ rfl
      obtain ⟨b1, i1, rfl, j1⟩ := DataW.trod_int (cs := [u1]) Try.underlying2 t1
      obtain ⟨y2, t2⟩ := hfs 2 _ rfl
      obtain ⟨b2, i2, rfl, j2⟩ := DataW.trod_int (cs := [u2]) Try.underlying2 t2
      obtain ⟨y3, t3⟩ := hfs 3 _ rfl
      obtain ⟨b3, i3, rfl, j3⟩ := DataW.trod_int (cs := [u3]) Try.underlying2 t3
      simp only [List.cons.injEq, and_true] at i0 i1 i2 i3
      subst i0 i1 i2 i3
      exact ⟨⟨b0, b1, b2, b3⟩, rfl, j0⟩)
  simp only [Value.cells, List.cons.injEq, and_true, Value.slice.injEq, List.length_map] at e1 hn1
  obtain ⟨rfl, rfl, rfl⟩ := e1
  obtain ⟨n, rfl, rfl, rfl, w2⟩ := open_int Try.underlying2 (hval 2 2 v2 rfl rfl) h2
  have rng_n : -9223372036854775808 ≤ n ∧ n ≤ 9223372036854775807 := by simpa [Lit.wf, IntKind.min, IntKind.max, IntKind.signed, IntKind.bits] using w2
  refine (lawPlaceWorks_ok m _ _ xs n W hR1 hok1 hn1 ).mono fun e W' ⟨he, hb⟩ => ?_
  subst he
  exact ⟨_, rfl, law_post (T := 4) (by kernel_rfl) (by rw [Try.params5]; intro t ht; simp at ht; rcases ht with rfl | rfl | rfl <;> exact ⟨by kernel_rfl, of_decide_eq_true (by kernel_rfl)⟩) rfl Try.underlying4 rfl rfl rfl rfl hW' hb⟩

def wArgs : Array Value := #[.int .i64 0, .slice none 0 0, .int .i64 0]
theorem reads (os : Os) {H : Type} (enc : TypeId × Value → H) : ∃ places, DataW.whole enc Try.prog (((World.holding Try.prog os ⟨#[], #[], []⟩)).forCall (fun _ _ => 0) ⟨#[], wArgs, []⟩).memory Try.f5.params.toList Rows.fnExactPlaceWorksSpec.vars false wArgs.toList 8 = some ([.lit (.int .i64 0), .nil, .lit (.int .i64 0)], [], places) :=
  ⟨[], by kernel_rfl⟩

set_option maxRecDepth 100000 in
theorem lifted (os : Os) (started : os.Started) (H : Type) (enc : TypeId × Value → H) (F : Stop.Interp) :
    ReturnsInHanded {} Try.checked os 5 .any ((OpenSpec.ofChange Rows.fnExactPlaceWorksSpec).preRow enc Try.prog Try.f5 Rows.fnExactPlaceWorksRow.domain false Rows.fnExactPlaceWorksRow.laid) (((OpenSpec.ofChange Rows.fnExactPlaceWorksSpec).at F).post enc Try.prog Try.f5 false true false false) := by
  obtain ⟨places, hx⟩ := reads os enc
  refine returnsInHanded_of_row (C := Try.checked) (s := OpenSpec.ofChange Rows.fnExactPlaceWorksSpec) own started (by kernel_rfl) Try.func5
    (witness_row_at (enc := enc) (C := Try.checked) false ((World.holding Try.prog os ⟨#[], #[], []⟩)) wArgs rfl (by kernel_rfl) (by kernel_rfl) (by kernel_rfl)
      (OpenSpec.preRow_of_cond 8 hx (by kernel_rfl) (fun k hk => by cases hk) (by kernel_rfl) (laidMetH_nil _ _))) ?_
  intro W base args ds gs before hval hW _ _ _ _ _ _
  exact contract H enc W base args ds gs before hval hW

theorem said : Rows.FnExactPlaceWorksSaid :=
  OpenClaim.holds_of_cond 5 Try.f5 rfl rfl rfl rfl rfl rfl rfl ⟨rfl, rfl, rfl, rfl, rfl⟩ rfl rfl rfl rfl rfl (by kernel_rfl) Try.func5 (by kernel_rfl)
    (of_decide_eq_true (by kernel_rfl)) (by unfold Func.isWrapper; first | (rw [if_pos (by decide +kernel)]; kernel_rfl) | (rw [if_neg (by decide +kernel)]; exact ⟨rfl, rfl⟩))
    (fun os started H enc _ F => by rw [OpenClaim.pre_eq_preRow]; exact lifted os started H enc F)

end Go.Proofs.Ytdbjbkdcmhekfaa.fnPlc
