/- The program's UndoVersion returns what the reference's returns, for all arguments. The tied card: the tables that the row lists read as the text of the program lays them. -/
import Derived.Test.YtmfadjdpbobfhaaDoorRows
import Derived.Test.YtmfadjdpbobfhaaDoorCards
import Derived.Test.YtmfadjdpbobfhaaDoorTie
import Derived.Test.YtmfadjdpbobfhaaDoorUndoLaw
import Derived.Test.YtmfadjdpbobfhaaDoorLawKit
import Derived.Test.YtmfadjdpbobfhaaDoorLawTab
import Derived.Test.YtmfadjdpbobfhaaDoorArgs
import Derived.Test.YtmfadjdpbobfhaaDoorRowsArg
import Derived.Test.YtmfadjdpbobfhaaDoorNestArg
import Derived.JoinedCond
namespace Go.Proofs.YtmfadjdpbobfhaaDoor.fnUndo
open Go.ChangeShapes Go.WideShapes Go.ChangeAt Go.RowKit Go.Deep
set_option linter.unusedVariables false

theorem cellsVersion : Tryd.prog.cellsOf 81 = 4 := by kernel_rfl
theorem cellsSetting : Tryd.prog.cellsOf 153 = 2 := by kernel_rfl

set_option maxRecDepth 100000 in
theorem contract (H : Type) (enc : TypeId × Value → H) (W : World) (base : Nat) (args : Array Value) (ds gs : List (DataW H)) (before : List MemPlace)
    (hval : ∀ (j : Nat) t v, Tryd.f3.params[j]? = some t → args[j]? = some v → Value.okWide Tryd.prog W .any base t v)
    (hW : DataW.Whole enc Tryd.prog Tryd.f3.params.toList Rows.fnExactUndoVersionSpec.vars false W args.toList ds gs before) (hL : laidMetH Tryd.prog Rows.fnExactUndoVersionRow.laid W) :
    Calls Tryd.prog 3 args W fun e W' => ∃ v, e = .returned v ∧ Rows.fnExactUndoVersionSpec.post enc Tryd.prog Tryd.f3 false true false false W args v W' := by
  have hW' := hW
  obtain ⟨p, q, hA0, hV, rfl, hfz, hnd⟩ := hW
  have hA : DataW.TrodAll enc Tryd.prog W 0 (fun _ => true) true Tryd.f3.params.toList args.toList ds p := hA0
  rw [Tryd.params3] at hA hval
  obtain ⟨v0, vs0, d0, ds0, p0, q0, hargs, rfl, rfl, h0, r0⟩ := trodAll_cons hA
  obtain ⟨v1, vs1, d1, ds1, p1, q1, rfl, rfl, rfl, h1, r1⟩ := trodAll_cons r0
  obtain ⟨rfl, rfl, rfl⟩ := trodAll_nil r1
  obtain rfl : args = #[v0, v1] := by cases args; simp_all
  clear hA0
  obtain ⟨a0, l0, q0, rfl⟩ := okWide_slice Tryd.underlying22 (hval 0 22 v0 rfl rfl)
  obtain ⟨f0, g0⟩ := h0
  obtain ⟨A0, k0, css0, e0, hn0, hR0, hr0⟩ := rows_arg Tryd.underlying22 cellsVersion (by omega) g0
  obtain ⟨xs, hl0, hV0, hok0⟩ := nest_arg (hd := hdVersion) (inn := inVersion) (q := DVersion.ok) (k := 2) hdVersion_length hR0 (fun r hr => by
    obtain ⟨hl, y, m, hy⟩ := hr0 r hr
    obtain ⟨m1, hfs⟩ := trod_fields Tryd.underlying81 (by kernel_rfl) hy
    match r, hl with
    | [u0, u1, u2, u3], _ =>
      obtain ⟨y0, t0⟩ := hfs 0 _ rfl
      obtain ⟨b0, i0, rfl, j0⟩ := DataW.trod_int (cs := [u0]) Tryd.underlying2 t0
      obtain ⟨y1, t1⟩ := hfs 1 _ rfl
      obtain ⟨b1, i1, rfl, j1⟩ := DataW.trod_int (cs := [u1]) Tryd.underlying2 t1
      obtain ⟨y2, t2⟩ := hfs 2 _ rfl
      obtain ⟨b2, i2, rfl, j2⟩ := DataW.trod_string (cs := [u2]) Tryd.underlying9 t2
      obtain ⟨y3, t3⟩ := hfs 3 _ rfl
      obtain ⟨A3, k3, css3, e3, hn3, hR3, hr3⟩ := rows_arg (cs := [u3]) Tryd.underlying79 cellsSetting (by omega) t3
      obtain ⟨ys, rfl, hok3⟩ := all_map (f := DSetting.cells) (q := DSetting.ok) (l := css3) (fun r hr => by
        obtain ⟨hl, y, m, hy⟩ := hr3 r hr
        obtain ⟨m2, hgs⟩ := trod_fields Tryd.underlying153 (by kernel_rfl) hy
        match r, hl with
        | [v0, v1], _ =>
          obtain ⟨z0, s0⟩ := hgs 0 _ rfl
          obtain ⟨a0, l0, rfl, n0⟩ := DataW.trod_string (cs := [v0]) Tryd.underlying9 s0
          obtain ⟨z1, s1⟩ := hgs 1 _ rfl
          obtain ⟨a1, l1, rfl, n1⟩ := DataW.trod_int (cs := [v1]) Tryd.underlying2 s1
          simp only [List.cons.injEq, and_true] at l0 l1
          subst l0 l1
          exact ⟨⟨a0, a1⟩, rfl, n0⟩)
      simp only [List.cons.injEq, and_true, List.length_map] at i0 i1 i2 e3 hn3
      subst i0 i1 i2 e3
      exact ⟨⟨b0, b1, b2, ys⟩, ⟨j2, hn3, hok3⟩, A3, k3, by rw [inVersion_length]; rfl, hR3⟩)
  simp only [Value.cells, List.cons.injEq, and_true, Value.slice.injEq] at e0
  rw [← hl0] at e0 hn0
  obtain ⟨rfl, rfl, rfl⟩ := e0
  obtain ⟨m, rfl, rfl, rfl, w1⟩ := open_int Tryd.underlying2 (hval 1 2 v1 rfl rfl) h1
  have rng_m : -9223372036854775808 ≤ m ∧ m ≤ 9223372036854775807 := by simpa [Lit.wf, IntKind.min, IntKind.max, IntKind.signed, IntKind.bits] using w1
  refine (lawUndoVersion_ok _ _ xs m W hV0 hok0 hn0 rng_m (tab_of hL)).mono fun e W' ⟨he, hb⟩ => ?_
  subst he
  exact ⟨_, rfl, law_post (T := 4) (by kernel_rfl) (by rw [Tryd.params3]; intro t ht; simp at ht; rcases ht with rfl | rfl <;> exact ⟨by kernel_rfl, of_decide_eq_true (by kernel_rfl)⟩) rfl Tryd.underlying4 rfl rfl rfl rfl hW' hb⟩

def wArgs : Array Value := #[.slice none 0 0, .int .i64 0]
theorem laid_met (os : Os) : laidMet Tryd.prog Rows.fnExactUndoVersionRow.laid ((laidWorld os).forCall (fun _ _ => 0) ⟨#[], wArgs, []⟩).memory :=
  laidMet_of_run' 8 (by kernel_rfl) (by kernel_rfl)
theorem reads (os : Os) {H : Type} (enc : TypeId × Value → H) : ∃ places, DataW.whole enc Tryd.prog ((laidWorld os).forCall (fun _ _ => 0) ⟨#[], wArgs, []⟩).memory Tryd.f3.params.toList Rows.fnExactUndoVersionSpec.vars false wArgs.toList 8 = some ([.nil, .lit (.int .i64 0)], [], places) :=
  ⟨[], by kernel_rfl⟩

set_option maxRecDepth 100000 in
theorem lifted (os : Os) (started : os.Started) (H : Type) (enc : TypeId × Value → H) (F : Stop.Interp) :
    ReturnsInHanded {} Tryd.checked os 3 .any ((OpenSpec.ofChange Rows.fnExactUndoVersionSpec).preRow enc Tryd.prog Tryd.f3 Rows.fnExactUndoVersionRow.domain false Rows.fnExactUndoVersionRow.laid) (((OpenSpec.ofChange Rows.fnExactUndoVersionSpec).at F).post enc Tryd.prog Tryd.f3 false true false false) := by
  obtain ⟨places, hx⟩ := reads os enc
  refine returnsInHanded_of_row (C := Tryd.checked) (s := OpenSpec.ofChange Rows.fnExactUndoVersionSpec) own started (by kernel_rfl) Tryd.func3
    (witness_row_at (enc := enc) (C := Tryd.checked) false (laidWorld os) wArgs rfl (by kernel_rfl) (by kernel_rfl) (by kernel_rfl)
      (OpenSpec.preRow_of_cond 8 hx (by kernel_rfl) (fun k hk => by cases hk) (by kernel_rfl) (laid_met os))) ?_
  intro W base args ds gs before hval hW _ _ _ hL _ _
  exact contract H enc W base args ds gs before hval hW hL

theorem said : Rows.FnExactUndoVersionSaid :=
  OpenClaim.holds_of_cond 3 Tryd.f3 rfl rfl rfl rfl rfl rfl rfl ⟨rfl, rfl, rfl, rfl, rfl⟩ rfl rfl rfl rfl rfl (by kernel_rfl) Tryd.func3 (by kernel_rfl)
    (of_decide_eq_true (by kernel_rfl)) (by unfold Func.isWrapper; first | (rw [if_pos (by decide +kernel)]; kernel_rfl) | (rw [if_neg (by decide +kernel)]; exact ⟨rfl, rfl⟩))
    (fun os started H enc _ F => by rw [OpenClaim.pre_eq_preRow]; exact lifted os started H enc F)

theorem plain (f : FuncId) (fn : Func) (hf : Tryd.pinned.checked.prog.funcNamed "loop.example/g01061/laws.FnExactUndoVersion" = some f) (hfn : Tryd.pinned.checked.prog.funcs[f]? = some fn) :
    true = Tryd.pinned.checked.prog.looks [] ∧ ∀ (j : Nat) t, fn.params[j]? = some t → Tryd.pinned.checked.prog.wantsStandIn t = false := by
  obtain rfl : f = 3 := Option.some.inj ((show Tryd.prog.funcNamed "loop.example/g01061/laws.FnExactUndoVersion" = some 3 by kernel_rfl).symm.trans hf) |>.symm
  obtain rfl : fn = Tryd.f3 := (Option.some.inj (Tryd.func3.symm.trans hfn)).symm
  refine ⟨by kernel_rfl, fun j t ht => ?_⟩
  rw [Tryd.params3] at ht
  have ht2 := Array.mem_of_getElem? ht
  simp only [List.mem_toArray, List.mem_cons, List.not_mem_nil, or_false] at ht2
  rcases ht2 with rfl | rfl
  · exact (show Tryd.prog.wantsStandIn 22 = false by kernel_rfl)
  · exact (show Tryd.prog.wantsStandIn 2 = false by kernel_rfl)

/-- THE CARD. -/
theorem card : Rows.FnExactUndoVersionCardSaid :=
  Claim7.holds_tied_plain_at .later [] _ _ _ _ said (fun _ h => by cases h) (by kernel_rfl) (fun _ h => by cases h) fnExactUndoVersion_row_tie rfl ⟨rfl, rfl⟩ (by kernel_rfl) rfl plain (by kernel_rfl)

end Go.Proofs.YtmfadjdpbobfhaaDoor.fnUndo
