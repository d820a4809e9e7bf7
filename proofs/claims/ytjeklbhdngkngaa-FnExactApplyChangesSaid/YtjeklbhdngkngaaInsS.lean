/- slices.Insert of a setting into a row of the call's own. -/
import Derived.Test.YtjeklbhdngkngaaISetting
import Derived.Lib.Overlaps
namespace Go.Proofs.Ytjeklbhdngkngaa
open Go.RowKit
set_option linter.unusedVariables false

section
variable {P : Program}
/-- copy as one step, its run known -/
theorem wp_copy_at {w : World} {o : Oper} {a : Act} {K : Act → World → Prop} {Q : Exit → Act → World → Prop} (d s : Operand) (dT sT : TypeId)
    (ho : o.op = .call { callee := .builtin .copy, args := #[d, s], argTypes := #[dT, sT] }) (v u : Value) (hd : a.eval d = v) (hs : a.eval s = u) {v' : Value} {w' : World} (hr : ∀ ty, (Builtin.copy_ #[dT, sT] ty #[v, u]).run P w = .ok v' w')
    (h : K (a.put o.dst v') w') : o.wp P a w K Q := by
  have hr := hr o.type
  unfold Oper.wp execOp
  simp only [ho, resolve, invoke, builtin, Sem.run_bind, Sem.run_pure, Result.andThen_ok, List.map_toArray, List.map_cons, List.map_nil, hd, hs, hr]
  exact h
theorem step_copy_at {w : World} {ops : Array Oper} {o : Oper} {a : Act} {K : Act → World → Prop} {Q : Exit → Act → World → Prop} {E : Prop} (hgd : o.guard = none) (d s : Operand) (dT sT : TypeId)
    (ho : o.op = .call { callee := .builtin .copy, args := #[d, s], argTypes := #[dT, sT] }) (v u : Value) (hd : a.eval d = v) (hs : a.eval s = u) {v' : Value} {w' : World} (hr : ∀ ty, (Builtin.copy_ #[dT, sT] ty #[v, u]).run P w = .ok v' w')
    (h : K (a.put o.dst v') w') : if Region.wanted o (yielded ops a.tmps) = true then Oper.wp P o a w K Q else E := by
  have hw : Region.wanted o (yielded ops a.tmps) = true := by simp [Region.wanted, hgd]
  rw [if_pos hw]
  exact wp_copy_at d s dT sT ho v u hd hs hr h
theorem wpList_copy_at {w : World} {ops : Array Oper} {rest : List Oper} {o : Oper} {a : Act} {Q : Exit → Act → World → Prop} (hgd : o.guard = none) (d s : Operand) (dT sT : TypeId)
    (ho : o.op = .call { callee := .builtin .copy, args := #[d, s], argTypes := #[dT, sT] }) (v u : Value) (hd : a.eval d = v) (hs : a.eval s = u) {v' : Value} {w' : World} (hr : ∀ ty, (Builtin.copy_ #[dT, sT] ty #[v, u]).run P w = .ok v' w')
    (h : wpList P ops Q rest (a.put o.dst v') w') : wpList P ops Q (o :: rest) a w :=
  wpList_plain hgd fun _ hK => wp_copy_at d s dT sT ho v u hd hs hr (hK _ _ h)
end
theorem room_splice {a d x cur : List Value} {p k q : Nat} (hp : a.length = p) (hx : x.length = k) (hd : d.length = q) (ht : cur.take (p + q) = a ++ d) (hl : p + k + q ≤ cur.length) :
    (splice (splice cur (p + k) d) p x).take (p + k + q) = a ++ x ++ d := by
  subst hp hx hd
  have h1 : cur.take a.length = a := by
    have := congrArg (List.take a.length) ht
    rw [List.take_take, Nat.min_eq_left (by omega), List.take_left] at this
    exact this
  have e1 : (splice cur (a.length + x.length) d).take a.length = a := by
    unfold splice
    rw [List.take_append_of_le_length (by rw [List.length_take]; omega), List.take_take, Nat.min_eq_left (by omega), h1]
  have e2 : (splice cur (a.length + x.length) d).drop (a.length + x.length) = d ++ cur.drop (a.length + x.length + d.length) := by
    unfold splice
    rw [List.drop_append_of_le_length (by rw [List.length_take]; omega), List.drop_of_length_le (by rw [List.length_take]; omega), List.nil_append]
  rw [splice, e1, e2]
  have e3 : a ++ (x ++ (d ++ cur.drop (a.length + x.length + d.length))) = (a ++ x ++ d) ++ cur.drop (a.length + x.length + d.length) := by simp [List.append_assoc]
  rw [e3, show a.length + x.length + d.length = (a ++ x ++ d).length by simp [Nat.add_assoc], List.take_left]

set_option maxHeartbeats 1600000 in
set_option maxRecDepth 100000 in
theorem insGrow_ok (g i vb B cap : Nat) (xs : List DSetting) (x : DSetting) (w : World) (hown : w.ownsRow B 95 2 (.slice (some ⟨g, 0, none⟩) xs.length cap) xs.length (xs.map DSetting.cells).flatten) (hlt : i < xs.length) (hgrow : cap < xs.length + 1) (hcap : xs.length ≤ cap) (hv : ∀ j u, x.cells[j]? = some u → w.cell? ⟨vb, j, none⟩ = some u) (hvb : vb < w.heap.size) (hn : xs.length ≤ 1048576) (hB : B ≤ w.heap.size) :
    Calls Try.prog 132 #[.slice (some ⟨g, 0, none⟩) xs.length cap, .int .i64 i, .slice (some ⟨vb, 0, none⟩) 1 1] w fun e w' => ∃ A c, e = .returned (.slice A (xs.length + 1) c) ∧ w'.ownsRow B 95 2 (.slice A (xs.length + 1) c) (xs.length + 1) ((insSetting xs i x).map DSetting.cells).flatten ∧ Below B w w' := by
  have hi : i ≤ xs.length := by omega
  have HX := hid (insSetting_flat (xs := xs) (i := i) (x := x))
  have HV := hid hv
  have h1x : ∀ u ∈ x.cells, u.oneCell' = true := by
    intro u hu
    have := oneSetting [x] u (by simpa using hu)
    exact this
  have H1 := hid h1x
  have hfl := flatSetting_length xs
  have HF := hid hfl
  clear hv h1x hfl
  have hz2 : ((i : Int) == (xs.length : Int)) = false := by rw [beq_eq_false_iff_ne]; omega
  have hkk : (xs.length : Int) + 1 - (i : Int) = ((xs.length + 1 - i : Nat) : Int) := by omega
  have HK := hid hkk
  have HO := hid hown
  have hm1 : i * 2 ≤ xs.length * 2 := Nat.mul_le_mul_right _ hi
  have hg : g < w.heap.size := (hown.lt g rfl).2
  have hnc : ¬ (cap = i) := by omega
  have hroom2 : (cap : Int) < (xs.length : Int) + 1 := by omega
  have hi0 : (0 : Int) ≤ (i : Int) := by omega
  have hi1 : (i : Int) ≤ xs.length := by omega
  clear hkk hown
  go_enter Try.func132, Try.ntmps132
  have hw1 : IntKind.i64.wrap ((i : Int) + 1) = (i : Int) + 1 := IntWalk.i64_in _ (by omega)
  have hb1 : (0 : Int) ≤ (i : Int) + 1 := by omega
  have htn : ((i : Int) + 1).toNat = i + 1 := by omega
  have hb4 : (i : Int) + 1 ≤ (xs.length : Int) + 1 := by omega
  go_wp2_with (at_builtin; refine wpList_app_zeros (w0 := w) rfl _ _ 24 3 rfl B 95 (.agg #[.string ⟨#[]⟩, .int .i64 0]) 2 24 Try.underlying24 Try.underlying3 infoSetting rfl (by decide) g xs.length cap _ HO.out i (xs.length + 1 - i) (xs.length + 1) (by omega) _ rfl rfl HK.out (by omega) (by omega) (by omega) (by omega) hB (Below.refl _ _) ?_; intro w1 c1 row hc1 hc2 hrl hrt HC hb0 hb1'; have HB0 := hid hb0; have HB1 := hid hb1'; have HR := hid hrl; have HT := hid hrt; have HM := hid hc2; have hc3 : c1 ≤ 9223372036854775807 := (by unfold maxLen at hc2; omega); have hnc2 : ¬ (c1 = i) := (by omega); have hnc3 : ¬ (c1 = i + 1) := (by omega); have hrl2 := hid (Nat.mul_le_mul_right 2 hc1); clear hb0 hb1' hrl hrt hc2; obtain ⟨w2, hrun, HC2, HD1, HD0⟩ := run_copy_some (P := Try.prog) (sT := 24) (ty := 3) Try.underlying24 sizeSetting w.heap.size (i * 2) (xs.length + 1 - i) (c1 - i) ⟨vb, 0, none⟩ 1 1 1 (Nat.min_eq_left (by omega)) row 95 HC x.cells rfl (fun j u hu => src_at (HB0.out.cell (p := ⟨vb, j, none⟩) hvb) (HV.out j u hu)) (by have h1 := HR.out; have h2 := hrl2.out; show i * 2 + 2 ≤ row.length; omega) H1.out B HB1.out hB HB0.out)
  have hsl := hid (splice_length (row := row) (u := x.cells) (p := i * 2) (by have h1 := HR.out; have h2 := hrl2.out; show i * 2 + 2 ≤ row.length; omega))
  have hdl := hid (show ((xs.map DSetting.cells).flatten.drop (i * 2)).length = (xs.length - i) * 2 by rw [List.length_drop, HF.out, Nat.sub_mul])
  go_region_law (refine step_copy_rows (w0 := w) (w1 := w) rfl _ _ 24 24 rfl 95 2 Try.underlying24 sizeSetting w.heap.size ((i + 1) * 2) (xs.length + 1 - (i + 1)) (c1 - (i + 1)) ⟨g, i * 2, none⟩ (xs.length - i) (cap - i) (by simp [Act.eval, Act.put]) (by simp [Act.eval, Act.put]) (splice row (i * 2) x.cells) 95 HC2.out ((xs.map DSetting.cells).flatten.drop (i * 2)) (by rw [hdl.out]; congr 1; exact (Nat.min_eq_left (by omega)).symm) (fun j u hu => by
        have hadd : (⟨g, i * 2, none⟩ : Addr).add j = ⟨g, i * 2 + j, none⟩ := by unfold Addr.add; split <;> simp_all
        have h0 := HO.out.cells (g := g) rfl (i * 2 + j) u (by rw [List.getElem?_drop] at hu; exact hu)
        have hadd2 : (⟨g, 0, none⟩ : Addr).add (i * 2 + j) = ⟨g, i * 2 + j, none⟩ := by unfold Addr.add; split <;> simp_all
        rw [hadd2] at h0
        rw [hadd]; exact (HD0.out.drew.cell (p := ⟨g, i * 2 + j, none⟩) hg).trans h0) (by rw [hsl.out, hdl.out]; have h1 := HR.out; have h2 := hrl2.out; omega) (fun u hu => oneSetting xs u (List.mem_of_mem_drop hu)) B HD1.out.drew hB w.heap.size HD0.out.drew (Nat.le_refl _) ?_; intro w3 HC3 hb3 hb3')
  have HE := hid hb3
  clear hb3 hb3' hrun
  go_wp2_with fail
  go_ret
  refine ⟨_, _, rfl, ⟨?_, .inr ⟨w.heap.size, c1, _, rfl, hB, HC3.out, hc1, HM.out, ?_, ?_⟩⟩, HE.out⟩
  · rw [flatSetting_length, insSetting_length hi]
  · rw [List.size_toArray, splice_length (by rw [hsl.out, hdl.out]; have h1 := HR.out; have h2 := hrl2.out; omega), hsl.out, HR.out]
  · have e := insert_splice (a := (xs.map DSetting.cells).flatten.take (i * 2)) (u := x.cells) (d := (xs.map DSetting.cells).flatten.drop (i * 2)) (row := row) (p := i * 2) (k := 2) (by rw [List.length_take, HF.out]; omega) rfl HT.out (by rw [hdl.out]; have h1 := HR.out; have h2 := hrl2.out; omega)
    rw [hdl.out] at e
    have e1 : (i + 1) * 2 = i * 2 + 2 := by omega
    have e2 : (xs.length + 1) * 2 = i * 2 + 2 + (xs.length - i) * 2 := by omega
    rw [HX.out, e1, e2]
    simpa using e

set_option maxHeartbeats 1600000 in
set_option maxRecDepth 100000 in
theorem insEnd_ok (AA : Option Addr) (i vb B cap : Nat) (xs : List DSetting) (x : DSetting) (w : World) (hown : w.ownsRow B 95 2 (.slice AA xs.length cap) xs.length (xs.map DSetting.cells).flatten) (hi : i = xs.length) (hv : ∀ j u, x.cells[j]? = some u → w.cell? ⟨vb, j, none⟩ = some u) (hvb : vb < w.heap.size) (hn : xs.length ≤ 1048576) (hB : B ≤ w.heap.size) (hcap : xs.length ≤ cap) (hcap2 : cap ≤ 9223372036854775807) :
    Calls Try.prog 132 #[.slice AA xs.length cap, .int .i64 i, .slice (some ⟨vb, 0, none⟩) 1 1] w fun e w' => ∃ A c, e = .returned (.slice A (xs.length + 1) c) ∧ w'.ownsRow B 95 2 (.slice A (xs.length + 1) c) (xs.length + 1) ((insSetting xs i x).map DSetting.cells).flatten ∧ Below B w w' := by
  have HX := hid (insSetting_flat (xs := xs) (i := i) (x := x))
  have HV := hid hv
  have h1x : ∀ u ∈ x.cells, u.oneCell' = true := by
    intro u hu
    have := oneSetting [x] u (by simpa using hu)
    exact this
  have H1 := hid h1x
  have hfl := flatSetting_length xs
  have HF := hid hfl
  clear hv h1x hfl
  subst hi
  rcases hown.2 with ⟨hv0, hn0⟩ | ⟨g0, cap0, cur0, hv0, -⟩
  · injection hv0 with a1 a2 a3
    subst a1 a3
    obtain rfl : xs = [] := List.eq_nil_of_length_eq_zero a2
    go_enter Try.func132, Try.ntmps132
    go_wp2_with (at_builtin; refine wpList_app_src (w0 := w) rfl _ _ 24 rfl B 95 (.agg #[.string ⟨#[]⟩, .int .i64 0]) 2 24 Try.underlying24 infoSetting rfl (by decide) _ 0 _ rfl hown (some ⟨vb, 0, none⟩) 1 1 x.cells rfl (by rfl) (fun h => by cases h) (fun _ => ⟨_, rfl, fun j u hu => by
        have hadd : (⟨vb, 0, none⟩ : Addr).add j = ⟨vb, j, none⟩ := by unfold Addr.add; split <;> simp_all
        rw [hadd]; exact HV.out j u hu⟩) H1.out (by omega) hB (Below.refl _ _) ?_; intro v1 w1 hown1 hb1 hz1)
    have HO := hid hown1
    clear hown1 hown
    go_wp2_with fail
    go_ret
    have e : ((insSetting ([] : List DSetting) ([] : List DSetting).length x).map DSetting.cells).flatten = (([] : List DSetting).map DSetting.cells).flatten ++ x.cells := by
      rw [HX.out, List.take_of_length_le (by rw [HF.out]; exact Nat.le_refl _), List.drop_of_length_le (by rw [HF.out]; exact Nat.le_refl _), List.append_nil]
    rw [show ((insSetting ([] : List DSetting) 0 x).map DSetting.cells).flatten = _ from e]
    obtain ⟨A', c', hv⟩ : ∃ A' c', v1 = .slice A' 1 c' := by
      rcases HO.out.2 with ⟨h1, h2⟩ | ⟨g', cap, cur, h1, _⟩
      · omega
      · exact ⟨_, _, h1⟩
    subst hv
    exact ⟨A', c', rfl, HO.out, hb1⟩
  · injection hv0 with a1 a2 a3
    subst a1 a3
    by_cases hcc : cap = xs.length
    · subst hcc
      go_enter Try.func132, Try.ntmps132
      go_wp2_with (at_builtin; refine wpList_app_src (w0 := w) rfl _ _ 24 rfl B 95 (.agg #[.string ⟨#[]⟩, .int .i64 0]) 2 24 Try.underlying24 infoSetting rfl (by decide) _ xs.length _ rfl hown (some ⟨vb, 0, none⟩) 1 1 x.cells rfl (by rfl) (fun h => by cases h) (fun _ => ⟨_, rfl, fun j u hu => by
          have hadd : (⟨vb, 0, none⟩ : Addr).add j = ⟨vb, j, none⟩ := by unfold Addr.add; split <;> simp_all
          rw [hadd]; exact HV.out j u hu⟩) H1.out (by omega) hB (Below.refl _ _) ?_; intro v1 w1 hown1 hb1 hz1)
      have HO := hid hown1
      clear hown1 hown
      go_wp2_with fail
      go_ret
      have e : ((insSetting xs xs.length x).map DSetting.cells).flatten = (xs.map DSetting.cells).flatten ++ x.cells := by
        rw [HX.out, List.take_of_length_le (by rw [HF.out]; exact Nat.le_refl _), List.drop_of_length_le (by rw [HF.out]; exact Nat.le_refl _), List.append_nil]
      rw [e]
      obtain ⟨A', c', hv⟩ : ∃ A' c', v1 = .slice A' (xs.length + 1) c' := by
        rcases HO.out.2 with ⟨h1, h2⟩ | ⟨g', cap, cur, h1, _⟩
        · omega
        · exact ⟨_, _, h1⟩
      subst hv
      exact ⟨A', c', rfl, HO.out, hb1⟩
    · have hcc2 : ¬ (xs.length = cap) := fun h => hcc h.symm
      go_enter Try.func132, Try.ntmps132
      go_wp2_with (at_builtin; refine wpList_app_src (w0 := w) rfl _ _ 24 rfl B 95 (.agg #[.string ⟨#[]⟩, .int .i64 0]) 2 24 Try.underlying24 infoSetting rfl (by decide) _ xs.length _ rfl hown (some ⟨vb, 0, none⟩) 1 1 x.cells rfl (by rfl) (fun h => by cases h) (fun _ => ⟨_, rfl, fun j u hu => by
          have hadd : (⟨vb, 0, none⟩ : Addr).add j = ⟨vb, j, none⟩ := by unfold Addr.add; split <;> simp_all
          rw [hadd]; exact HV.out j u hu⟩) H1.out (by omega) hB (Below.refl _ _) ?_; intro v1 w1 hown1 hb1 hz1)
      have HO := hid hown1
      clear hown1 hown
      go_wp2_with fail
      go_ret
      have e : ((insSetting xs xs.length x).map DSetting.cells).flatten = (xs.map DSetting.cells).flatten ++ x.cells := by
        rw [HX.out, List.take_of_length_le (by rw [HF.out]; exact Nat.le_refl _), List.drop_of_length_le (by rw [HF.out]; exact Nat.le_refl _), List.append_nil]
      rw [e]
      obtain ⟨A', c', hv⟩ : ∃ A' c', v1 = .slice A' (xs.length + 1) c' := by
        rcases HO.out.2 with ⟨h1, h2⟩ | ⟨g', cap, cur, h1, _⟩
        · omega
        · exact ⟨_, _, h1⟩
      subst hv
      exact ⟨A', c', rfl, HO.out, hb1⟩

set_option maxHeartbeats 1600000 in
set_option maxRecDepth 100000 in
theorem insRoom_ok (g i vb B cap : Nat) (xs : List DSetting) (x : DSetting) (w : World) (hown : w.ownsRow B 95 2 (.slice (some ⟨g, 0, none⟩) xs.length cap) xs.length (xs.map DSetting.cells).flatten) (hlt : i < xs.length) (hroom : xs.length + 1 ≤ cap) (hvo : w.heap[vb]? = some (.cells x.cells.toArray 95)) (hne : vb ≠ g) (hn : xs.length ≤ 1048576) (hB : B ≤ w.heap.size) :
    Calls Try.prog 132 #[.slice (some ⟨g, 0, none⟩) xs.length cap, .int .i64 i, .slice (some ⟨vb, 0, none⟩) 1 1] w fun e w' => ∃ A c, e = .returned (.slice A (xs.length + 1) c) ∧ w'.ownsRow B 95 2 (.slice A (xs.length + 1) c) (xs.length + 1) ((insSetting xs i x).map DSetting.cells).flatten ∧ Below B w w' := by
  have hi : i ≤ xs.length := by omega
  have HX := hid (insSetting_flat (xs := xs) (i := i) (x := x))
  have h1x : ∀ u ∈ x.cells, u.oneCell' = true := by
    intro u hu
    have := oneSetting [x] u (by simpa using hu)
    exact this
  have H1 := hid h1x
  have hvb : vb < w.heap.size := (Array.getElem?_eq_some_iff.1 hvo).1
  have HV := hid (show ∀ j u, x.cells[j]? = some u → w.cell? ⟨vb, j, none⟩ = some u from fun j u hu => by rw [cell_of_row _ _ _ _ _ _ hvo]; simpa using hu)
  have hfl := flatSetting_length xs
  have HF := hid hfl
  obtain ⟨cur, hBg, hh, hm, hsz, htk⟩ : ∃ cur : List Value, B ≤ g ∧ w.heap[g]? = some (.cells cur.toArray 95 (0, 0)) ∧ cap ≤ maxLen ∧ cur.length = cap * 2 ∧ cur.take (xs.length * 2) = (xs.map DSetting.cells).flatten := by
    rcases hown.2 with ⟨h0, _⟩ | ⟨g', cap', cur, hv, h1, h2, h3, h4, h5, h6⟩
    · cases h0
    · injection hv with a1 _ a3
      injection a1 with a1
      injection a1 with a1
      subst a1 a3
      obtain ⟨l⟩ := cur
      exact ⟨l, h1, h2, h4, h5, by simpa using h6⟩
  have hov : ∀ la ca lb cb off, (callFunc 158 #[.slice (some ⟨vb, 0, none⟩) la ca, .slice (some ⟨g, off, none⟩) lb cb]).run Try.prog w = .ok (.value (.bool false)) w := fun la ca lb cb off => by
    rw [run_callFunc_extern Try.func158 (by kernel_rfl) (by kernel_rfl) (by kernel_rfl) (e := Extern.SlicesOverlaps.overlaps #[24, 24] #[4]) (by kernel_rfl),
      Lib.run_overlaps_apart w 24 4 95 Try.underlying24 2 Try.sizeOf95 ⟨vb, 0, none⟩ ⟨g, off, none⟩ la ca lb cb hne 95 95 2 (cap * 2) (by simp [World.shape?, hvo, DSetting.cells]) (by simp [World.shape?, hh, hsz]) (by omega) (by simp [World.frozen?, hvo]) (by simp [World.frozen?, hvo])]
    rfl
  have hg : g < w.heap.size := (Array.getElem?_eq_some_iff.1 hh).1
  have hz2 : ((i : Int) == (xs.length : Int)) = false := by rw [beq_eq_false_iff_ne]; omega
  have hm2 : cap ≤ 9223372036854775807 := by unfold maxLen at hm; omega
  have hroom2 : ¬ (cap : Int) < (xs.length : Int) + 1 := by omega
  have hi0 : (0 : Int) ≤ (i : Int) := by omega
  have hi1 : (i : Int) ≤ xs.length := by omega
  have hw1 : IntKind.i64.wrap ((i : Int) + 1) = (i : Int) + 1 := IntWalk.i64_in _ (by omega)
  have hw2 : IntKind.i64.wrap ((xs.length : Int) + 1) = (xs.length : Int) + 1 := IntWalk.i64_in _ (by omega)
  have hb1 : (0 : Int) ≤ (i : Int) + 1 := by omega
  have htn : ((i : Int) + 1).toNat = i + 1 := by omega
  have htn2 : ((xs.length : Int) + 1).toNat = xs.length + 1 := by omega
  have hb4 : (i : Int) + 1 ≤ (xs.length : Int) + 1 := by omega
  have hb5 : (i : Int) ≤ (xs.length : Int) + 1 := by omega
  have hb6 : (xs.length : Int) + 1 ≤ (cap : Int) := by omega
  have hnc : ¬ (cap = i) := by omega
  have hnc2 : ¬ (cap = i + 1) := by omega
  have HH := hid hh
  have HO := hid hown
  have HS := hid hsz
  have HT := hid htk
  have HM := hid hm
  have hdl : ((xs.map DSetting.cells).flatten.drop (i * 2)).length = (xs.length - i) * 2 := by rw [List.length_drop, hfl, Nat.sub_mul]
  have hcp1 : ∀ ty, (Builtin.copy_ #[24, 24] ty #[.slice (some ⟨g, (i + 1) * 2, none⟩) (xs.length + 1 - (i + 1)) (cap - (i + 1)), .slice (some ⟨g, i * 2, none⟩) (xs.length + 1 - i) (cap - i)]).run Try.prog w.drew = .ok (goInt (Nat.min (xs.length + 1 - i) (xs.length + 1 - (i + 1)))) (w.drew.setRow g (splice cur ((i + 1) * 2) ((xs.map DSetting.cells).flatten.drop (i * 2))).toArray) := fun ty => by
    have h := run_copy_rows (P := Try.prog) (w := w.drew) (sT := 24) (ty := ty) Try.underlying24 sizeSetting g ((i + 1) * 2) (xs.length + 1 - (i + 1)) (cap - (i + 1)) ⟨g, i * 2, none⟩ (xs.length + 1 - i) (cap - i) cur.toArray 95 hh ((xs.map DSetting.cells).flatten.drop (i * 2)) (by rw [hdl]; congr 1; simp only [Nat.min_def]; split <;> omega) (fun j u hu => by
      have hadd : (⟨g, i * 2, none⟩ : Addr).add j = ⟨g, i * 2 + j, none⟩ := by unfold Addr.add; split <;> simp_all
      have h0 := hown.cells (g := g) rfl (i * 2 + j) u (by rw [List.getElem?_drop] at hu; exact hu)
      have hadd2 : (⟨g, 0, none⟩ : Addr).add (i * 2 + j) = ⟨g, i * 2 + j, none⟩ := by unfold Addr.add; split <;> simp_all
      rw [hadd2] at h0
      rw [hadd]; exact h0) (by rw [hdl, List.size_toArray, hsz]; omega) (fun u hu => oneSetting xs u (List.mem_of_mem_drop hu))
    simpa [splice] using h
  obtain ⟨w2, hw2⟩ : ∃ w2, w2 = w.drew.setRow g (splice cur ((i + 1) * 2) ((xs.map DSetting.cells).flatten.drop (i * 2))).toArray := ⟨_, rfl⟩
  rw [← hw2] at hcp1
  have h2g : w2.heap[g]? = some (.cells (splice cur ((i + 1) * 2) ((xs.map DSetting.cells).flatten.drop (i * 2))).toArray 95 (0, 0)) := by rw [hw2]; exact setRow_heap w.drew g _ _ _ _ hh
  have hbel2 : Below B w w2 := by rw [hw2]; exact below_setRow (Below.refl _ _).drew hBg _
  have hl2 : (splice cur ((i + 1) * 2) ((xs.map DSetting.cells).flatten.drop (i * 2))).length = cap * 2 := by rw [splice_length (by rw [hdl, hsz]; omega), hsz]
  have hcp2 : ∀ ty, (Builtin.copy_ #[24, 24] ty #[.slice (some ⟨g, i * 2, none⟩) (xs.length + 1 - i) (cap - i), .slice (some ⟨vb, 0, none⟩) 1 1]).run Try.prog w2 = .ok (goInt (Nat.min 1 (xs.length + 1 - i))) (w2.setRow g (splice (splice cur ((i + 1) * 2) ((xs.map DSetting.cells).flatten.drop (i * 2))) (i * 2) x.cells).toArray) := fun ty => by
    have h := run_copy_rows (P := Try.prog) (w := w2) (sT := 24) (ty := ty) Try.underlying24 sizeSetting g (i * 2) (xs.length + 1 - i) (cap - i) ⟨vb, 0, none⟩ 1 1 _ 95 h2g x.cells (by rw [show Nat.min 1 (xs.length + 1 - i) = 1 from Nat.min_eq_left (by omega)]; rfl) (fun j u hu => by
      refine src_at (w := w) ?_ (HV.out j u hu)
      rw [hw2]
      exact cell_setRow_other w.drew g _ ⟨vb, j, none⟩ hne) (by rw [List.size_toArray, hl2]; show i * 2 + 2 ≤ cap * 2; omega) H1.out
    simpa [splice] using h
  have HBW := hid (show Below B w (w2.setRow g (splice (splice cur ((i + 1) * 2) ((xs.map DSetting.cells).flatten.drop (i * 2))) (i * 2) x.cells).toArray) from below_setRow hbel2 hBg _)
  have hg3 := setRow_heap w2 g _ (splice (splice cur ((i + 1) * 2) ((xs.map DSetting.cells).flatten.drop (i * 2))) (i * 2) x.cells).toArray _ _ h2g
  have HG3 := hid hg3
  have HL2 := hid hl2
  have HDL := hid hdl
  have HC1 := hid hcp1
  have HC2 := hid hcp2
  clear hown hh hsz htk hvo h1x hm hdl hcp1 hcp2 hw2 h2g hbel2 hl2 hg3 hfl
  go_enter Try.func132, Try.ntmps132
  go_wp2_with fail
  go_region_law (refine step_copy_at rfl _ _ 24 24 rfl _ _ (by simp [Act.eval, Act.put]) (by simp [Act.eval, Act.put]) HC1.out ?_)
  have hrun := HC2.out 3
  go_wp2_with fail
  go_ret
  refine ⟨_, _, rfl, ⟨?_, .inr ⟨g, cap, _, rfl, hBg, HG3.out, hroom, HM.out, ?_, ?_⟩⟩, HBW.out⟩
  · rw [flatSetting_length, insSetting_length hi]
  · rw [List.size_toArray, splice_length (by rw [HL2.out]; show i * 2 + 2 ≤ cap * 2; omega), HL2.out]
  · have e := room_splice (a := (xs.map DSetting.cells).flatten.take (i * 2)) (x := x.cells) (d := (xs.map DSetting.cells).flatten.drop (i * 2)) (cur := cur) (p := i * 2) (k := 2) (q := (xs.length - i) * 2) (by rw [List.length_take, HF.out]; omega) rfl HDL.out (by rw [List.take_append_drop, ← HT.out]; congr 1; omega) (by rw [HS.out]; omega)
    have e1 : (i + 1) * 2 = i * 2 + 2 := by omega
    have e2 : (xs.length + 1) * 2 = i * 2 + 2 + (xs.length - i) * 2 := by omega
    rw [HX.out, e1, e2]
    simpa using e
end Go.Proofs.Ytjeklbhdngkngaa
