/- The program's PutGood returns what the reference's returns, for all arguments. -/
import Derived.Test.YtjeklbhdngkngaaRows
import Derived.Test.YtjeklbhdngkngaaPutGoodLaw
import Derived.Test.YtjeklbhdngkngaaLawKit
import Derived.Test.YtjeklbhdngkngaaArgs
import Derived.Test.YtjeklbhdngkngaaRowsArg
import Derived.JoinedCond
namespace Go.Proofs.Ytjeklbhdngkngaa.fnPutGood
open Go.ChangeShapes Go.WideShapes Go.ChangeAt Go.RowKit Go.Deep
set_option linter.unusedVariables false

theorem own : ownKnob Try.prog.godebug = none := by kernel_rfl
theorem cellsGood : Try.prog.cellsOf 79 = 4 := by kernel_rfl

set_option maxRecDepth 100000 in
theorem contract (H : Type) (enc : TypeId × Value → H) (W : World) (base : Nat) (args : Array Value) (ds gs : List (DataW H)) (before : List MemPlace)
    (hval : ∀ (j : Nat) t v, Try.f9.params[j]? = some t → args[j]? = some v → Value.okWide Try.prog W .any base t v)
    (hW : DataW.Whole enc Try.prog Try.f9.params.toList Rows.fnExactPutGoodSpec.vars false W args.toList ds gs before) :
    Calls Try.prog 9 args W fun e W' => ∃ v, e = .returned v ∧ Rows.fnExactPutGoodSpec.post enc Try.prog Try.f9 false true false false W args v W' := by
  have hW' := hW
  obtain ⟨p, q, hA0, hV, rfl, hfz, hnd⟩ := hW
  have hA : DataW.TrodAll enc Try.prog W 0 (fun _ => true) true Try.f9.params.toList args.toList ds p := hA0
  rw [Try.params9] at hA hval
  obtain ⟨v0, vs0, d0, ds0, p0, q0, hargs, rfl, rfl, h0, r0⟩ := trodAll_cons hA
  obtain ⟨v1, vs1, d1, ds1, p1, q1, rfl, rfl, rfl, h1, r1⟩ := trodAll_cons r0
  obtain ⟨rfl, rfl, rfl⟩ := trodAll_nil r1
  obtain rfl : args = #[v0, v1] := by cases args; simp_all
  clear hA0
  obtain ⟨a0, l0, q0, rfl⟩ := okWide_slice Try.underlying77 (hval 0 77 v0 rfl rfl)
  obtain ⟨f0, g0⟩ := h0
  obtain ⟨A0, k0, css0, e0, hn0, hR0, hr0⟩ := rows_arg Try.underlying77 cellsGood (by omega) g0
  obtain ⟨xs, rfl, hok0⟩ := all_map (f := DGood.cells) (q := DGood.ok) (l := css0) (fun r hr => by
    obtain ⟨hl, y, m, hy⟩ := hr0 r hr
    obtain ⟨m1, hfs⟩ := trod_fields Try.underlying79 (by kernel_rfl) hy
    match r, hl with
    | [u0, u1, u2, u3], _ =>
      obtain ⟨y0, t0⟩ := hfs 0 _ rfl
      obtain ⟨b0, i0, rfl, j0⟩ := DataW.trod_string (cs := [u0]) Try.underlying9 t0
      obtain ⟨y1, t1⟩ := hfs 1 _ rfl
      obtain ⟨b1, i1, rfl, j1⟩ := DataW.trod_int (cs := [u1]) Try.underlying2 t1
      obtain ⟨y2, t2⟩ := hfs 2 _ rfl
      obtain ⟨b2, i2, rfl, j2⟩ := DataW.trod_int (cs := [u2]) Try.underlying2 t2
      obtain ⟨y3, t3⟩ := hfs 3 _ rfl
      obtain ⟨b3, i3, rfl, j3⟩ := DataW.trod_int (cs := [u3]) Try.underlying2 t3
      simp only [List.cons.injEq, and_true] at i0 i1 i2 i3
      subst i0 i1 i2 i3
      exact ⟨⟨b0, b1, b2, b3⟩, rfl, j0⟩)
  simp only [Value.cells, List.cons.injEq, and_true, Value.slice.injEq, List.length_map] at e0 hn0
  obtain ⟨rfl, rfl, rfl⟩ := e0
  obtain ⟨cs1, rfl, hsz1⟩ := okWide_struct Try.underlying79 (hval 1 79 v1 rfl rfl)
  obtain ⟨f1, g1⟩ := h1
  obtain ⟨m1, hfs1⟩ := trod_fields Try.underlying79 (by kernel_rfl) g1
  obtain ⟨l1⟩ := cs1
  obtain ⟨xu0, xu1, xu2, xu3, rfl⟩ : ∃ xu0 xu1 xu2 xu3, l1 = [xu0, xu1, xu2, xu3] := by
    have hl := hsz1.trans cellsGood
    match l1, hl with
    | [xu0, xu1, xu2, xu3], _ => exact ⟨_, _, _, _, rfl⟩
  obtain ⟨y0, t0⟩ := hfs1 0 _ rfl
  obtain ⟨xb0, i0, rfl, xj0⟩ := DataW.trod_string (cs := [xu0]) Try.underlying9 t0
  obtain ⟨y1, t1⟩ := hfs1 1 _ rfl
  obtain ⟨xb1, i1, rfl, xj1⟩ := DataW.trod_int (cs := [xu1]) Try.underlying2 t1
  obtain ⟨y2, t2⟩ := hfs1 2 _ rfl
  obtain ⟨xb2, i2, rfl, xj2⟩ := DataW.trod_int (cs := [xu2]) Try.underlying2 t2
  obtain ⟨y3, t3⟩ := hfs1 3 _ rfl
  obtain ⟨xb3, i3, rfl, xj3⟩ := DataW.trod_int (cs := [xu3]) Try.underlying2 t3
  simp only [List.cons.injEq, and_true] at i0 i1 i2 i3
  subst i0 i1 i2 i3
  refine (lawPutGood_ok _ _ xs ⟨xb0, xb1, xb2, xb3⟩ W hR0 hok0 hn0 xj0 ).mono fun e W' ⟨he, hb⟩ => ?_
  subst he
  exact ⟨_, rfl, law_post (T := 4) (by kernel_rfl) (by rw [Try.params9]; intro t ht; simp at ht; rcases ht with rfl | rfl <;> exact ⟨by kernel_rfl, of_decide_eq_true (by kernel_rfl)⟩) rfl Try.underlying4 rfl rfl rfl rfl hW' hb⟩

def wArgs : Array Value := #[.slice none 0 0, .agg #[.string ⟨#[]⟩, .int .i64 0, .int .i64 0, .int .i64 0]]
theorem reads (os : Os) {H : Type} (enc : TypeId × Value → H) : ∃ places, DataW.whole enc Try.prog (((World.holding Try.prog os ⟨#[], #[], []⟩)).forCall (fun _ _ => 0) ⟨#[], wArgs, []⟩).memory Try.f9.params.toList Rows.fnExactPutGoodSpec.vars false wArgs.toList 8 = some ([.nil, .agg [.lit (.string []), .lit (.int .i64 0), .lit (.int .i64 0), .lit (.int .i64 0)]], [], places) :=
  ⟨[], by kernel_rfl⟩

set_option maxRecDepth 100000 in
theorem lifted (os : Os) (started : os.Started) (H : Type) (enc : TypeId × Value → H) (F : Stop.Interp) :
    ReturnsInHanded {} Try.checked os 9 .any ((OpenSpec.ofChange Rows.fnExactPutGoodSpec).preRow enc Try.prog Try.f9 Rows.fnExactPutGoodRow.domain false Rows.fnExactPutGoodRow.laid) (((OpenSpec.ofChange Rows.fnExactPutGoodSpec).at F).post enc Try.prog Try.f9 false true false false) := by
  obtain ⟨places, hx⟩ := reads os enc
  refine returnsInHanded_of_row (C := Try.checked) (s := OpenSpec.ofChange Rows.fnExactPutGoodSpec) own started (by kernel_rfl) Try.func9
    (witness_row_at (enc := enc) (C := Try.checked) false ((World.holding Try.prog os ⟨#[], #[], []⟩)) wArgs rfl (by kernel_rfl) (by kernel_rfl) (by kernel_rfl)
      (OpenSpec.preRow_of_cond 8 hx (by kernel_rfl) (fun k hk => by cases hk) (by kernel_rfl) (laidMetH_nil _ _))) ?_
  intro W base args ds gs before hval hW _ _ _ _ _ _
  exact contract H enc W base args ds gs before hval hW

theorem said : Rows.FnExactPutGoodSaid :=
  OpenClaim.holds_of_cond 9 Try.f9 rfl rfl rfl rfl rfl rfl rfl ⟨rfl, rfl, rfl, rfl, rfl⟩ rfl rfl rfl rfl rfl (by kernel_rfl) Try.func9 (by kernel_rfl)
    (of_decide_eq_true (by kernel_rfl)) (by unfold Func.isWrapper; first | (rw [if_pos (by decide +kernel)]; kernel_rfl) | (rw [if_neg (by decide +kernel)]; exact ⟨rfl, rfl⟩))
    (fun os started H enc _ F => by rw [OpenClaim.pre_eq_preRow]; exact lifted os started H enc F)

end Go.Proofs.Ytjeklbhdngkngaa.fnPutGood
