/- The law FnBows returns true, for all arguments. The tied card: the tables that the row lists read as the text of the program lays them. -/
import Derived.Test.YtmfadjdpbobfhaaDoorRows
import Derived.Test.YtmfadjdpbobfhaaDoorCards
import Derived.Test.YtmfadjdpbobfhaaDoorTie
import Derived.Test.YtmfadjdpbobfhaaDoorBowLaw
import Derived.Test.YtmfadjdpbobfhaaDoorLawKit
import Derived.Test.YtmfadjdpbobfhaaDoorLawTabR
import Derived.Test.YtmfadjdpbobfhaaDoorArgs
import Derived.Test.YtmfadjdpbobfhaaDoorRowsArg
import Derived.JoinedCond
namespace Go.Proofs.YtmfadjdpbobfhaaDoor.fnBows
open Go.ChangeShapes Go.WideShapes Go.ChangeAt Go.RowKit Go.Deep
set_option linter.unusedVariables false

theorem cells8 : Tryd.prog.cellsOf 5 = 1 := by kernel_rfl

set_option maxRecDepth 100000 in
theorem contract (H : Type) (enc : TypeId × Value → H) (W : World) (base : Nat) (args : Array Value) (ds gs : List (DataW H)) (before : List MemPlace)
    (hval : ∀ (j : Nat) t v, Tryd.f9.params[j]? = some t → args[j]? = some v → Value.okWide Tryd.prog W .any base t v)
    (hW : DataW.Whole enc Tryd.prog Tryd.f9.params.toList Rows.fnBowsSpec.vars false W args.toList ds gs before) (hL : laidMetH Tryd.prog Rows.fnBowsRow.laid W) (hsh : W.ShapedOpen Tryd.prog) :
    Calls Tryd.prog 9 args W fun e W' => ∃ v, e = .returned v ∧ Rows.fnBowsSpec.post enc Tryd.prog Tryd.f9 false true false false W args v W' := by
  have hW' := hW
  obtain ⟨p, q, hA0, hV, rfl, hfz, hnd⟩ := hW
  have hA : DataW.TrodAll enc Tryd.prog W 0 (fun _ => true) true Tryd.f9.params.toList args.toList ds p := hA0
  rw [Tryd.params9] at hA hval
  obtain ⟨v0, vs0, d0, ds0, p0, q0, hargs, rfl, rfl, h0, r0⟩ := trodAll_cons hA
  obtain ⟨v1, vs1, d1, ds1, p1, q1, rfl, rfl, rfl, h1, r1⟩ := trodAll_cons r0
  obtain ⟨rfl, rfl, rfl⟩ := trodAll_nil r1
  obtain rfl : args = #[v0, v1] := by cases args; simp_all
  clear hA0
  obtain ⟨a0, l0, q0, rfl⟩ := okWide_slice Tryd.underlying59 (hval 0 59 v0 rfl rfl)
  obtain ⟨f0, g0⟩ := h0
  obtain ⟨A0, k0, css0, e0, hn0, hR0, hr0⟩ := rows_arg Tryd.underlying59 cells8 (by omega) g0
  obtain ⟨ns, rfl, hb0⟩ := all_map (f := fun n : Int => [Value.int .u8 n]) (q := fun n : Int => 0 ≤ n ∧ n ≤ 255) (l := css0) (fun r hr => by
    obtain ⟨hl, y, m, hy⟩ := hr0 r hr
    match r, hl with
    | [u0], _ =>
      obtain ⟨b0, i0, rfl, j0⟩ := DataW.trod_int (cs := [u0]) Tryd.underlying5 hy
      simp only [List.cons.injEq, and_true] at i0
      subst i0
      exact ⟨b0, rfl, by simpa [Lit.wf, IntKind.min, IntKind.max, IntKind.signed, IntKind.bits] using j0⟩)
  simp only [Value.cells, List.cons.injEq, and_true, Value.slice.injEq, List.length_map] at e0 hn0
  obtain ⟨rfl, rfl, rfl⟩ := e0
  obtain ⟨a1, l1, q1, rfl⟩ := okWide_slice Tryd.underlying59 (hval 1 59 v1 rfl rfl)
  obtain ⟨f1, g1⟩ := h1
  obtain ⟨A1, k1, css1, e1, hn1, hR1, hr1⟩ := rows_arg Tryd.underlying59 cells8 (by omega) g1
  obtain ⟨ms, rfl, hb1⟩ := all_map (f := fun n : Int => [Value.int .u8 n]) (q := fun n : Int => 0 ≤ n ∧ n ≤ 255) (l := css1) (fun r hr => by
    obtain ⟨hl, y, m, hy⟩ := hr1 r hr
    match r, hl with
    | [u0], _ =>
      obtain ⟨b0, i0, rfl, j0⟩ := DataW.trod_int (cs := [u0]) Tryd.underlying5 hy
      simp only [List.cons.injEq, and_true] at i0
      subst i0
      exact ⟨b0, rfl, by simpa [Lit.wf, IntKind.min, IntKind.max, IntKind.signed, IntKind.bits] using j0⟩)
  simp only [Value.cells, List.cons.injEq, and_true, Value.slice.injEq, List.length_map] at e1 hn1
  obtain ⟨rfl, rfl, rfl⟩ := e1
  refine (lawFnBows_ok _ _ ns _ _ ms W hR0 hb0 hn0 hR1 hb1 hn1 (rd5_of hL (Tryd.laysM145.s1_3 W hsh))).mono fun e W' ⟨he, hb⟩ => ?_
  subst he
  exact ⟨_, rfl, law_post (T := 4) (by kernel_rfl) (by rw [Tryd.params9]; intro t ht; simp at ht; subst ht; exact ⟨by kernel_rfl, of_decide_eq_true (by kernel_rfl)⟩) rfl Tryd.underlying4 rfl rfl rfl rfl hW' hb⟩

def wArgs : Array Value := #[.slice none 0 0, .slice none 0 0]
theorem laid_met (os : Os) : laidMet Tryd.prog Rows.fnBowsRow.laid ((laidWorld5 os).forCall (fun _ _ => 0) ⟨#[], wArgs, []⟩).memory :=
  laidMet_of_run' 8 (by kernel_rfl) (by kernel_rfl)
theorem reads (os : Os) {H : Type} (enc : TypeId × Value → H) : ∃ places, DataW.whole enc Tryd.prog ((laidWorld5 os).forCall (fun _ _ => 0) ⟨#[], wArgs, []⟩).memory Tryd.f9.params.toList Rows.fnBowsSpec.vars false wArgs.toList 8 = some ([.nil, .nil], [], places) :=
  ⟨[], by kernel_rfl⟩

set_option maxRecDepth 100000 in
theorem lifted (os : Os) (started : os.Started) (H : Type) (enc : TypeId × Value → H) (F : Stop.Interp) :
    ReturnsInHanded {} Tryd.checked os 9 .any ((OpenSpec.ofChange Rows.fnBowsSpec).preRow enc Tryd.prog Tryd.f9 Rows.fnBowsRow.domain false Rows.fnBowsRow.laid) (((OpenSpec.ofChange Rows.fnBowsSpec).at F).post enc Tryd.prog Tryd.f9 false true false false) := by
  obtain ⟨places, hx⟩ := reads os enc
  refine returnsInHanded_of_row (C := Tryd.checked) (s := OpenSpec.ofChange Rows.fnBowsSpec) own started (by kernel_rfl) Tryd.func9
    (witness_row_at (enc := enc) (C := Tryd.checked) false (laidWorld5 os) wArgs rfl (by kernel_rfl) (by kernel_rfl) (by kernel_rfl)
      (OpenSpec.preRow_of_cond 8 hx (by kernel_rfl) (fun k hk => by cases hk) (by kernel_rfl) (laid_met os))) ?_
  intro W base args ds gs before hval hW _ _ _ hL hsh _
  exact contract H enc W base args ds gs before hval hW hL hsh

theorem said : Rows.FnBowsSaid :=
  OpenClaim.holds_of_cond 9 Tryd.f9 rfl rfl rfl rfl rfl rfl rfl ⟨rfl, rfl, rfl, rfl, rfl⟩ rfl rfl rfl rfl rfl (by kernel_rfl) Tryd.func9 (by kernel_rfl)
    (of_decide_eq_true (by kernel_rfl)) (by unfold Func.isWrapper; first | (rw [if_pos (by decide +kernel)]; kernel_rfl) | (rw [if_neg (by decide +kernel)]; exact ⟨rfl, rfl⟩))
    (fun os started H enc _ F => by rw [OpenClaim.pre_eq_preRow]; exact lifted os started H enc F)

theorem plain (f : FuncId) (fn : Func) (hf : Tryd.pinned.checked.prog.funcNamed "loop.example/g01061/laws.FnBows" = some f) (hfn : Tryd.pinned.checked.prog.funcs[f]? = some fn) :
    true = Tryd.pinned.checked.prog.looks [] ∧ ∀ (j : Nat) t, fn.params[j]? = some t → Tryd.pinned.checked.prog.wantsStandIn t = false := by
  obtain rfl : f = 9 := Option.some.inj ((show Tryd.prog.funcNamed "loop.example/g01061/laws.FnBows" = some 9 by kernel_rfl).symm.trans hf) |>.symm
  obtain rfl : fn = Tryd.f9 := (Option.some.inj (Tryd.func9.symm.trans hfn)).symm
  refine ⟨by kernel_rfl, fun j t ht => ?_⟩
  rw [Tryd.params9] at ht
  have ht2 := Array.mem_of_getElem? ht
  simp only [List.mem_toArray, List.mem_cons, List.not_mem_nil, or_false] at ht2
  rcases ht2 with rfl | rfl
  · exact (show Tryd.prog.wantsStandIn 59 = false by kernel_rfl)
  · exact (show Tryd.prog.wantsStandIn 59 = false by kernel_rfl)

/-- THE CARD. -/
theorem card : Rows.FnBowsCardSaid :=
  Claim7.holds_tied_plain_at .later [] _ _ _ _ said (fun _ h => by cases h) (by kernel_rfl) (fun _ h => by cases h) fnBows_row_tie rfl ⟨rfl, rfl⟩ (by kernel_rfl) rfl plain (by kernel_rfl)

end Go.Proofs.YtmfadjdpbobfhaaDoor.fnBows
