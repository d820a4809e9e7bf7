/- The program's VersionText returns what the reference's returns, for all arguments: the tied card. The tables of strconv and math/bits that the row lists read as the program's text lays them (the card ties that). -/
import Derived.Test.YtdjobekjfggndabDoorCards
import Derived.Test.YtdjobekjfggndabDoorTie
import Derived.Test.YtdjobekjfggndabDoorVersionL
import Derived.Test.YtdjobekjfggndabDoorLawKit
import Derived.Test.YtdjobekjfggndabDoorLawTab
import Derived.Test.YtdjobekjfggndabDoorArgs
import Derived.Test.YtdjobekjfggndabDoorRowsArg
namespace Go.Proofs.YtdjobekjfggndabDoor.fnVersion
open Go.ChangeShapes Go.WideShapes Go.ChangeAt Go.RowKit
set_option linter.unusedVariables false

theorem setCells : Tryd.prog.cellsOf 133 = 2 := by kernel_rfl
theorem cellsP : Tryd.prog.cellsOf 59 = 4 := by kernel_rfl

set_option maxRecDepth 100000 in
theorem contract (H : Type) (enc : TypeId × Value → H) (W : World) (base : Nat) (args : Array Value) (ds gs : List (DataW H)) (before : List MemPlace)
    (hval : ∀ (j : Nat) t v, Tryd.f8.params[j]? = some t → args[j]? = some v → Value.okWide Tryd.prog W .any base t v)
    (hW : DataW.Whole enc Tryd.prog Tryd.f8.params.toList Rows.fnExactVersionTextSpec.vars false W args.toList ds gs before) (hL : laidMetH Tryd.prog Rows.fnExactVersionTextRow.laid W) :
    Calls Tryd.prog 8 args W fun e W' => ∃ v, e = .returned v ∧ Rows.fnExactVersionTextSpec.post enc Tryd.prog Tryd.f8 false true false false W args v W' := by
  have hW' := hW
  obtain ⟨p, q, hA0, hV, rfl, hfz, hnd⟩ := hW
  have hA : DataW.TrodAll enc Tryd.prog W 0 (fun _ => true) true Tryd.f8.params.toList args.toList ds p := hA0
  rw [Tryd.params8] at hA hval
  obtain ⟨v0, vs0, d0, ds0, p0, q0, hargs, rfl, rfl, h0, r0⟩ := trodAll_cons hA
  obtain ⟨rfl, rfl, rfl⟩ := trodAll_nil r0
  obtain rfl : args = #[v0] := by cases args; simp_all
  clear hA0
  have hv0 := hval 0 59 v0 rfl rfl
  obtain ⟨c0, c1, c2, c3, y0, y1, y2, y3, n, rfl, rfl, rfl, hy0, hy1, hy2, hy3⟩ := Joins.open_agg4 Tryd.underlying59 (by kernel_rfl) cellsP hv0 h0
  obtain ⟨x0, e0, rfl, w0⟩ := DataW.trod_int Tryd.underlying2 hy0
  obtain ⟨x1, e1, rfl, w1⟩ := DataW.trod_int Tryd.underlying2 hy1
  obtain ⟨x2, e2, rfl, w2⟩ := DataW.trod_string Tryd.underlying9 hy2
  obtain ⟨A3, k3, css, e3, hn3, hR3, hr3⟩ := rows_arg Tryd.underlying57 setCells (by omega) hy3
  obtain ⟨xs, rfl, hok⟩ := all_map (f := DSetting.cells) (q := DSetting.ok) (l := css) (fun r hr => by
    obtain ⟨hl, y, m, hy⟩ := hr3 r hr
    obtain ⟨z0, z1, m1, rfl, _, g0, g1⟩ := trod_struct2 Tryd.underlying133 hy
    match r, hl with
    | [u0, u1], _ =>
      obtain ⟨a0, i0, rfl, j0⟩ := DataW.trod_string (cs := [u0]) Tryd.underlying9 g0
      obtain ⟨a1, i1, rfl, j1⟩ := DataW.trod_int (cs := [u1]) Tryd.underlying2 g1
      simp only [List.cons.injEq, and_true] at i0 i1
      subst i0 i1
      exact ⟨⟨a0, a1⟩, rfl, j0⟩)
  simp only [List.cons.injEq, and_true] at e0 e1 e2 e3
  rw [List.length_map] at e3 hn3
  subst e0 e1 e2 e3
  refine (lawVersion_ok x0 x1 x2 A3 k3 xs W w2 hR3 hok hn3 (tab_of hL)).mono fun e W' ⟨he, hb⟩ => ?_
  subst he
  exact ⟨_, rfl, law_post (T := 4) (by kernel_rfl) (by rw [Tryd.params8]; intro t ht; simp at ht; subst ht; exact ⟨by kernel_rfl, of_decide_eq_true (by kernel_rfl)⟩) rfl Tryd.underlying4 rfl rfl rfl rfl hW' hb⟩

def wArgs : Array Value := #[.agg #[.int .i64 0, .int .i64 0, .string ⟨#[]⟩, .slice none 0 0]]
theorem laid_met (os : Os) : laidMet Tryd.prog Rows.fnExactVersionTextRow.laid ((laidWorld os).forCall (fun _ _ => 0) ⟨#[], wArgs, []⟩).memory :=
  laidMet_of_run' 8 (by kernel_rfl) (by kernel_rfl)
theorem reads (os : Os) {H : Type} (enc : TypeId × Value → H) : ∃ places, DataW.whole enc Tryd.prog ((laidWorld os).forCall (fun _ _ => 0) ⟨#[], wArgs, []⟩).memory Tryd.f8.params.toList Rows.fnExactVersionTextSpec.vars false wArgs.toList 8 = some ([.agg [.lit (.int .i64 0), .lit (.int .i64 0), .lit (.string []), .nil]], [], places) :=
  ⟨[], by kernel_rfl⟩

set_option maxRecDepth 100000 in
theorem lifted (os : Os) (started : os.Started) (H : Type) (enc : TypeId × Value → H) (F : Stop.Interp) :
    ReturnsInHanded {} Tryd.checked os 8 .any ((OpenSpec.ofChange Rows.fnExactVersionTextSpec).preRow enc Tryd.prog Tryd.f8 Rows.fnExactVersionTextRow.domain false Rows.fnExactVersionTextRow.laid) (((OpenSpec.ofChange Rows.fnExactVersionTextSpec).at F).post enc Tryd.prog Tryd.f8 false true false false) := by
  obtain ⟨places, hx⟩ := reads os enc
  refine returnsInHanded_of_row (C := Tryd.checked) (s := OpenSpec.ofChange Rows.fnExactVersionTextSpec) own started (by kernel_rfl) Tryd.func8
    (witness_row_at (enc := enc) (C := Tryd.checked) false (laidWorld os) wArgs rfl (by kernel_rfl) (by kernel_rfl) (by kernel_rfl)
      (OpenSpec.preRow_of_cond 8 hx (by kernel_rfl) (fun k hk => by cases hk) (by kernel_rfl) (laid_met os))) ?_
  intro W base args ds gs before hval hW _ _ _ hL _ _
  exact contract H enc W base args ds gs before hval hW hL

theorem said : Rows.FnExactVersionTextSaid :=
  OpenClaim.holds_of_cond 8 Tryd.f8 rfl rfl rfl rfl rfl rfl rfl ⟨rfl, rfl, rfl, rfl, rfl⟩ rfl rfl rfl rfl rfl (by kernel_rfl) Tryd.func8 (by kernel_rfl)
    (of_decide_eq_true (by kernel_rfl)) (by unfold Func.isWrapper; first | (rw [if_pos (by decide +kernel)]; kernel_rfl) | (rw [if_neg (by decide +kernel)]; exact ⟨rfl, rfl⟩))
    (fun os started H enc _ F => by rw [OpenClaim.pre_eq_preRow]; exact lifted os started H enc F)

theorem plain (f : FuncId) (fn : Func) (hf : Tryd.pinned.checked.prog.funcNamed "loop.example/g01061/laws.FnExactVersionText" = some f) (hfn : Tryd.pinned.checked.prog.funcs[f]? = some fn) :
    false = Tryd.pinned.checked.prog.looks [] ∧ ∀ (j : Nat) t, fn.params[j]? = some t → Tryd.pinned.checked.prog.wantsStandIn t = false := by
  obtain rfl : f = 8 := Option.some.inj ((show Tryd.prog.funcNamed "loop.example/g01061/laws.FnExactVersionText" = some 8 by kernel_rfl).symm.trans hf) |>.symm
  obtain rfl : fn = Tryd.f8 := (Option.some.inj (Tryd.func8.symm.trans hfn)).symm
  refine ⟨by kernel_rfl, fun j t ht => ?_⟩
  rw [Tryd.params8] at ht
  obtain rfl : t = 59 := by simpa using Array.mem_of_getElem? ht
  exact (show Tryd.prog.wantsStandIn 59 = false by kernel_rfl)

/-- THE CARD. -/
theorem card : Rows.FnExactVersionTextCardSaid :=
  Claim7.holds_tied_plain_at .later [] _ _ _ _ said (fun _ h => by cases h) (by kernel_rfl) (fun _ h => by cases h) fnExactVersionText_row_tie rfl ⟨rfl, rfl⟩ (by kernel_rfl) rfl plain (by kernel_rfl)
end Go.Proofs.YtdjobekjfggndabDoor.fnVersion
