/- The law FnOutlines returns true, for all arguments. -/
import Derived.Test.YtdbjbkdcmhekfaaRows
import Derived.Test.YtdbjbkdcmhekfaaOutLaw
import Derived.Test.YtdbjbkdcmhekfaaLawKit
import Derived.Test.YtdbjbkdcmhekfaaArgs
import Derived.Test.YtdbjbkdcmhekfaaRowsArg
import Derived.JoinedCond
namespace Go.Proofs.Ytdbjbkdcmhekfaa.fnOut
open Go.ChangeShapes Go.WideShapes Go.ChangeAt Go.RowKit Go.Deep
set_option linter.unusedVariables false

theorem own : ownKnob Try.prog.godebug = none := by kernel_rfl
theorem cells8 : Try.prog.cellsOf 5 = 1 := by kernel_rfl

set_option maxRecDepth 100000 in
theorem contract (H : Type) (enc : TypeId × Value → H) (W : World) (base : Nat) (args : Array Value) (ds gs : List (DataW H)) (before : List MemPlace)
    (hval : ∀ (j : Nat) t v, Try.f8.params[j]? = some t → args[j]? = some v → Value.okWide Try.prog W .any base t v)
    (hW : DataW.Whole enc Try.prog Try.f8.params.toList Rows.fnOutlinesSpec.vars false W args.toList ds gs before) :
    Calls Try.prog 8 args W fun e W' => ∃ v, e = .returned v ∧ Rows.fnOutlinesSpec.post enc Try.prog Try.f8 false true false false W args v W' := by
  have hW' := hW
  obtain ⟨p, q, hA0, hV, rfl, hfz, hnd⟩ := hW
  have hA : DataW.TrodAll enc Try.prog W 0 (fun _ => true) true Try.f8.params.toList args.toList ds p := hA0
  rw [Try.params8] at hA hval
  obtain ⟨v0, vs0, d0, ds0, p0, q0, hargs, rfl, rfl, h0, r0⟩ := trodAll_cons hA
  obtain ⟨v1, vs1, d1, ds1, p1, q1, rfl, rfl, rfl, h1, r1⟩ := trodAll_cons r0
  obtain ⟨rfl, rfl, rfl⟩ := trodAll_nil r1
  obtain rfl : args = #[v0, v1] := by cases args; simp_all
  clear hA0
  obtain ⟨a0, l0, q0, rfl⟩ := okWide_slice Try.underlying71 (hval 0 71 v0 rfl rfl)
  obtain ⟨f0, g0⟩ := h0
  obtain ⟨A0, k0, css0, e0, hn0, hR0, hr0⟩ := rows_arg Try.underlying71 cells8 (by omega) g0
  obtain ⟨ns, rfl, hb0⟩ := all_map (f := fun n : Int => [Value.int .u8 n]) (q := fun n : Int => 0 ≤ n ∧ n ≤ 255) (l := css0) (fun r hr => by
    obtain ⟨hl, y, m, hy⟩ := hr0 r hr
    match r, hl with
    | [u0], _ =>
      obtain ⟨b0, i0, rfl, j0⟩ := DataW.trod_int (cs := [u0]) Try.underlying5 hy
      simp only [List.cons.injEq, and_true] at i0
      subst i0
      exact ⟨b0, rfl, by simpa [Lit.wf, IntKind.min, IntKind.max, IntKind.signed, IntKind.bits] using j0⟩)
  simp only [Value.cells, List.cons.injEq, and_true, Value.slice.injEq, List.length_map] at e0 hn0
  obtain ⟨rfl, rfl, rfl⟩ := e0
  obtain ⟨a1, l1, q1, rfl⟩ := okWide_slice Try.underlying71 (hval 1 71 v1 rfl rfl)
  obtain ⟨f1, g1⟩ := h1
  obtain ⟨A1, k1, css1, e1, hn1, hR1, hr1⟩ := rows_arg Try.underlying71 cells8 (by omega) g1
  obtain ⟨ms, rfl, hb1⟩ := all_map (f := fun n : Int => [Value.int .u8 n]) (q := fun n : Int => 0 ≤ n ∧ n ≤ 255) (l := css1) (fun r hr => by
    obtain ⟨hl, y, m, hy⟩ := hr1 r hr
    match r, hl with
    | [u0], _ =>
      obtain ⟨b0, i0, rfl, j0⟩ := DataW.trod_int (cs := [u0]) Try.underlying5 hy
      simp only [List.cons.injEq, and_true] at i0
      subst i0
      exact ⟨b0, rfl, by simpa [Lit.wf, IntKind.min, IntKind.max, IntKind.signed, IntKind.bits] using j0⟩)
  simp only [Value.cells, List.cons.injEq, and_true, Value.slice.injEq, List.length_map] at e1 hn1
  obtain ⟨rfl, rfl, rfl⟩ := e1
  refine (lawFnOutlines_ok _ _ ns _ _ ms W hR0 hb0 hn0 hR1 hb1 hn1).mono fun e W' ⟨he, hb⟩ => ?_
  subst he
  exact ⟨_, rfl, law_post (T := 4) (by kernel_rfl) (by rw [Try.params8]; intro t ht; simp at ht; subst ht; exact ⟨by kernel_rfl, of_decide_eq_true (by kernel_rfl)⟩) rfl Try.underlying4 rfl rfl rfl rfl hW' hb⟩

def wArgs : Array Value := #[.slice none 0 0, .slice none 0 0]
theorem reads (os : Os) {H : Type} (enc : TypeId × Value → H) : ∃ places, DataW.whole enc Try.prog (((World.holding Try.prog os ⟨#[], #[], []⟩)).forCall (fun _ _ => 0) ⟨#[], wArgs, []⟩).memory Try.f8.params.toList Rows.fnOutlinesSpec.vars false wArgs.toList 8 = some ([.nil, .nil], [], places) :=
  ⟨[], by kernel_rfl⟩

set_option maxRecDepth 100000 in
theorem lifted (os : Os) (started : os.Started) (H : Type) (enc : TypeId × Value → H) (F : Stop.Interp) :
    ReturnsInHanded {} Try.checked os 8 .any ((OpenSpec.ofChange Rows.fnOutlinesSpec).preRow enc Try.prog Try.f8 Rows.fnOutlinesRow.domain false Rows.fnOutlinesRow.laid) (((OpenSpec.ofChange Rows.fnOutlinesSpec).at F).post enc Try.prog Try.f8 false true false false) := by
  obtain ⟨places, hx⟩ := reads os enc
  refine returnsInHanded_of_row (C := Try.checked) (s := OpenSpec.ofChange Rows.fnOutlinesSpec) own started (by kernel_rfl) Try.func8
    (witness_row_at (enc := enc) (C := Try.checked) false ((World.holding Try.prog os ⟨#[], #[], []⟩)) wArgs rfl (by kernel_rfl) (by kernel_rfl) (by kernel_rfl)
      (OpenSpec.preRow_of_cond 8 hx (by kernel_rfl) (fun k hk => by cases hk) (by kernel_rfl) (laidMetH_nil _ _))) ?_
  intro W base args ds gs before hval hW _ _ _ _ _ _
  exact contract H enc W base args ds gs before hval hW

theorem said : Rows.FnOutlinesSaid :=
  OpenClaim.holds_of_cond 8 Try.f8 rfl rfl rfl rfl rfl rfl rfl ⟨rfl, rfl, rfl, rfl, rfl⟩ rfl rfl rfl rfl rfl (by kernel_rfl) Try.func8 (by kernel_rfl)
    (of_decide_eq_true (by kernel_rfl)) (by unfold Func.isWrapper; first | (rw [if_pos (by decide +kernel)]; kernel_rfl) | (rw [if_neg (by decide +kernel)]; exact ⟨rfl, rfl⟩))
    (fun os started H enc _ F => by rw [OpenClaim.pre_eq_preRow]; exact lifted os started H enc F)

end Go.Proofs.Ytdbjbkdcmhekfaa.fnOut
