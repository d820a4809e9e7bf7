/- The program's CommitState returns what the reference's returns, for all arguments. -/
import Derived.Test.YtjeklbhdngkngaaRows
import Derived.Test.YtjeklbhdngkngaaCommitLaw
import Derived.Test.YtjeklbhdngkngaaLawKit
import Derived.Test.YtjeklbhdngkngaaArgs
import Derived.Test.YtjeklbhdngkngaaRowsArg
import Derived.Test.YtjeklbhdngkngaaNestArg
import Derived.JoinedCond
namespace Go.Proofs.Ytjeklbhdngkngaa.fnCommit
open Go.ChangeShapes Go.WideShapes Go.ChangeAt Go.RowKit Go.Deep
set_option linter.unusedVariables false

theorem own : ownKnob Try.prog.godebug = none := by kernel_rfl
theorem cellsVersion : Try.prog.cellsOf 120 = 4 := by kernel_rfl
theorem cellsSetting : Try.prog.cellsOf 93 = 2 := by kernel_rfl

set_option maxRecDepth 100000 in
theorem contract (H : Type) (enc : TypeId × Value → H) (W : World) (base : Nat) (args : Array Value) (ds gs : List (DataW H)) (before : List MemPlace)
    (hval : ∀ (j : Nat) t v, Try.f5.params[j]? = some t → args[j]? = some v → Value.okWide Try.prog W .any base t v)
    (hW : DataW.Whole enc Try.prog Try.f5.params.toList Rows.fnExactCommitStateSpec.vars false W args.toList ds gs before) :
    Calls Try.prog 5 args W fun e W' => ∃ v, e = .returned v ∧ Rows.fnExactCommitStateSpec.post enc Try.prog Try.f5 false true false false W args v W' := by
  have hW' := hW
  obtain ⟨p, q, hA0, hV, rfl, hfz, hnd⟩ := hW
  have hA : DataW.TrodAll enc Try.prog W 0 (fun _ => true) true Try.f5.params.toList args.toList ds p := hA0
  rw [Try.params5] at hA hval
  obtain ⟨v0, vs0, d0, ds0, p0, q0, hargs, rfl, rfl, h0, r0⟩ := trodAll_cons hA
  obtain ⟨v1, vs1, d1, ds1, p1, q1, rfl, rfl, rfl, h1, r1⟩ := trodAll_cons r0
  obtain ⟨v2, vs2, d2, ds2, p2, q2, rfl, rfl, rfl, h2, r2⟩ := trodAll_cons r1
  obtain ⟨v3, vs3, d3, ds3, p3, q3, rfl, rfl, rfl, h3, r3⟩ := trodAll_cons r2
  obtain ⟨rfl, rfl, rfl⟩ := trodAll_nil r3
  obtain rfl : args = #[v0, v1, v2, v3] := by cases args; simp_all
  clear hA0
  obtain ⟨a0, l0, q0, rfl⟩ := okWide_slice Try.underlying39 (hval 0 39 v0 rfl rfl)
  obtain ⟨f0, g0⟩ := h0
  obtain ⟨A0, k0, css0, e0, hn0, hR0, hr0⟩ := rows_arg Try.underlying39 cellsVersion (by omega) g0
  obtain ⟨xs, hl0, hV0, hok0⟩ := nest_arg (hd := hdVersion) (inn := inVersion) (q := DVersion.ok) (k := 2) hdVersion_length hR0 (fun r hr => by
    obtain ⟨hl, y, m, hy⟩ := hr0 r hr
    obtain ⟨m1, hfs⟩ := trod_fields Try.underlying120 (by kernel_rfl) hy
    match r, hl with
    | [u0, u1, u2, u3], _ =>
      obtain ⟨y0, t0⟩ := hfs 0 _ rfl
      obtain ⟨b0, i0, rfl, j0⟩ := DataW.trod_int (cs := [u0]) Try.underlying2 t0
      obtain ⟨y1, t1⟩ := hfs 1 _ rfl
      obtain ⟨b1, i1, rfl, j1⟩ := DataW.trod_int (cs := [u1]) Try.underlying2 t1
      obtain ⟨y2, t2⟩ := hfs 2 _ rfl
      obtain ⟨b2, i2, rfl, j2⟩ := DataW.trod_string (cs := [u2]) Try.underlying9 t2
      obtain ⟨y3, t3⟩ := hfs 3 _ rfl
      obtain ⟨A3, k3, css3, e3, hn3, hR3, hr3⟩ := rows_arg (cs := [u3]) Try.underlying22 cellsSetting (by omega) t3
      obtain ⟨ys, rfl, hok3⟩ := all_map (f := DSetting.cells) (q := DSetting.ok) (l := css3) (fun r hr => by
        obtain ⟨hl, y, m, hy⟩ := hr3 r hr
        obtain ⟨m2, hgs⟩ := trod_fields Try.underlying93 (by kernel_rfl) hy
        match r, hl with
        | [v0, v1], _ =>
          obtain ⟨z0, s0⟩ := hgs 0 _ rfl
          obtain ⟨a0, l0, rfl, n0⟩ := DataW.trod_string (cs := [v0]) Try.underlying9 s0
          obtain ⟨z1, s1⟩ := hgs 1 _ rfl
          obtain ⟨a1, l1, rfl, n1⟩ := DataW.trod_int (cs := [v1]) Try.underlying2 s1
          simp only [List.cons.injEq, and_true] at l0 l1
          subst l0 l1
          exact ⟨⟨a0, a1⟩, rfl, n0⟩)
      simp only [List.cons.injEq, and_true, List.length_map] at i0 i1 i2 e3 hn3
      subst i0 i1 i2 e3
      exact ⟨⟨b0, b1, b2, ys⟩, ⟨j2, hn3, hok3⟩, A3, k3, by rw [inVersion_length]; rfl, hR3⟩)
  simp only [Value.cells, List.cons.injEq, and_true, Value.slice.injEq] at e0
  rw [← hl0] at e0 hn0
  obtain ⟨rfl, rfl, rfl⟩ := e0
  obtain ⟨m, rfl, rfl, rfl, w1⟩ := open_int Try.underlying2 (hval 1 2 v1 rfl rfl) h1
  have rng_m : -9223372036854775808 ≤ m ∧ m ≤ 9223372036854775807 := by simpa [Lit.wf, IntKind.min, IntKind.max, IntKind.signed, IntKind.bits] using w1
  obtain ⟨memo, rfl⟩ := okWide_string Try.underlying9 (hval 2 9 v2 rfl rfl)
  obtain ⟨f2, g2⟩ := h2
  obtain ⟨s2', e2, z2, w2⟩ := DataW.trod_string Try.underlying9 g2
  simp only [Value.cells, List.cons.injEq, and_true, Value.string.injEq] at e2
  subst e2
  simp only [Prod.mk.injEq] at z2
  obtain ⟨rfl, rfl⟩ := z2
  obtain ⟨a3, l3, q3, rfl⟩ := okWide_slice Try.underlying22 (hval 3 22 v3 rfl rfl)
  obtain ⟨f3, g3⟩ := h3
  obtain ⟨A3, k3, css3, e3, hn3, hR3, hr3⟩ := rows_arg Try.underlying22 cellsSetting (by omega) g3
  obtain ⟨st, rfl, hok3⟩ := all_map (f := DSetting.cells) (q := DSetting.ok) (l := css3) (fun r hr => by
    obtain ⟨hl, y, m, hy⟩ := hr3 r hr
    obtain ⟨m1, hfs⟩ := trod_fields Try.underlying93 (by kernel_rfl) hy
    match r, hl with
    | [u0, u1], _ =>
      obtain ⟨y0, t0⟩ := hfs 0 _ rfl
      obtain ⟨b0, i0, rfl, j0⟩ := DataW.trod_string (cs := [u0]) Try.underlying9 t0
      obtain ⟨y1, t1⟩ := hfs 1 _ rfl
      obtain ⟨b1, i1, rfl, j1⟩ := DataW.trod_int (cs := [u1]) Try.underlying2 t1
      simp only [List.cons.injEq, and_true] at i0 i1
      subst i0 i1
      exact ⟨⟨b0, b1⟩, rfl, j0⟩)
  simp only [Value.cells, List.cons.injEq, and_true, Value.slice.injEq, List.length_map] at e3 hn3
  obtain ⟨rfl, rfl, rfl⟩ := e3
  refine (lawCommitState_ok _ _ xs m memo _ _ st W hV0 hok0 hn0 w2 hR3 hok3 hn3 rng_m).mono fun e W' ⟨he, hb⟩ => ?_
  subst he
  exact ⟨_, rfl, law_post (T := 4) (by kernel_rfl) (by rw [Try.params5]; intro t ht; simp at ht; rcases ht with rfl | rfl | rfl | rfl <;> exact ⟨by kernel_rfl, of_decide_eq_true (by kernel_rfl)⟩) rfl Try.underlying4 rfl rfl rfl rfl hW' hb⟩

def wArgs : Array Value := #[.slice none 0 0, .int .i64 0, .string ⟨#[]⟩, .slice none 0 0]
theorem reads (os : Os) {H : Type} (enc : TypeId × Value → H) : ∃ places, DataW.whole enc Try.prog (((World.holding Try.prog os ⟨#[], #[], []⟩)).forCall (fun _ _ => 0) ⟨#[], wArgs, []⟩).memory Try.f5.params.toList Rows.fnExactCommitStateSpec.vars false wArgs.toList 8 = some ([.nil, .lit (.int .i64 0), .lit (.string []), .nil], [], places) :=
  ⟨[], by kernel_rfl⟩

set_option maxRecDepth 100000 in
theorem lifted (os : Os) (started : os.Started) (H : Type) (enc : TypeId × Value → H) (F : Stop.Interp) :
    ReturnsInHanded {} Try.checked os 5 .any ((OpenSpec.ofChange Rows.fnExactCommitStateSpec).preRow enc Try.prog Try.f5 Rows.fnExactCommitStateRow.domain false Rows.fnExactCommitStateRow.laid) (((OpenSpec.ofChange Rows.fnExactCommitStateSpec).at F).post enc Try.prog Try.f5 false true false false) := by
  obtain ⟨places, hx⟩ := reads os enc
  refine returnsInHanded_of_row (C := Try.checked) (s := OpenSpec.ofChange Rows.fnExactCommitStateSpec) own started (by kernel_rfl) Try.func5
    (witness_row_at (enc := enc) (C := Try.checked) false ((World.holding Try.prog os ⟨#[], #[], []⟩)) wArgs rfl (by kernel_rfl) (by kernel_rfl) (by kernel_rfl)
      (OpenSpec.preRow_of_cond 8 hx (by kernel_rfl) (fun k hk => by cases hk) (by kernel_rfl) (laidMetH_nil _ _))) ?_
  intro W base args ds gs before hval hW _ _ _ _ _ _
  exact contract H enc W base args ds gs before hval hW

theorem said : Rows.FnExactCommitStateSaid :=
  OpenClaim.holds_of_cond 5 Try.f5 rfl rfl rfl rfl rfl rfl rfl ⟨rfl, rfl, rfl, rfl, rfl⟩ rfl rfl rfl rfl rfl (by kernel_rfl) Try.func5 (by kernel_rfl)
    (of_decide_eq_true (by kernel_rfl)) (by unfold Func.isWrapper; first | (rw [if_pos (by decide +kernel)]; kernel_rfl) | (rw [if_neg (by decide +kernel)]; exact ⟨rfl, rfl⟩))
    (fun os started H enc _ F => by rw [OpenClaim.pre_eq_preRow]; exact lifted os started H enc F)

end Go.Proofs.Ytjeklbhdngkngaa.fnCommit
