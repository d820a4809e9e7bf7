/- slices.Delete of one setting out of a row of the call's own. -/
import Derived.Test.YtjeklbhdngkngaaISetting
import Derived.Test.YtjeklbhdngkngaaDelMath
import Derived.Deep.RegionLaw
namespace Go.Proofs.Ytjeklbhdngkngaa
open Go.RowKit
set_option linter.unusedVariables false

theorem zeros_Setting (n : Nat) : (Builtin.zeroCells (Value.cells (.agg #[.string ⟨#[]⟩, .int .i64 0])) n).toList = (List.replicate n [Value.string ⟨#[]⟩, Value.int .i64 0]).flatten := by
  have h := made_rows (Value.cells (.agg #[.string ⟨#[]⟩, .int .i64 0])) n 2 rfl (by omega)
  have e : Builtin.zeroCells (Value.cells (.agg #[.string ⟨#[]⟩, .int .i64 0])) n = madeCells (Value.cells (.agg #[.string ⟨#[]⟩, .int .i64 0])) (n * 2) := rfl
  rw [e, h]
  rfl
theorem del_flat {xs : List DSetting} {i d : Nat} (h : xs.length = i + d + 1) : (setSeg (xs.map DSetting.cells).flatten (i * 2) ((xs.map DSetting.cells).flatten.drop ((i + 1) * 2))).take ((i + d) * 2) = ((xs.eraseIdx i).map DSetting.cells).flatten := by
  have hl := flatSetting_length xs
  have h1 : (xs.map DSetting.cells).flatten = (xs.map DSetting.cells).flatten.take (i * 2) ++ (xs.map DSetting.cells).flatten.drop (i * 2) := (List.take_append_drop _ _).symm
  have hd : ((xs.map DSetting.cells).flatten.drop ((i + 1) * 2)).length = d * 2 := by rw [List.length_drop, hl]; omega
  have ht : ((xs.map DSetting.cells).flatten.take (i * 2)).length = i * 2 := by rw [List.length_take, hl]; omega
  have h2 : setSeg (xs.map DSetting.cells).flatten (i * 2) ((xs.map DSetting.cells).flatten.drop ((i + 1) * 2)) = (xs.map DSetting.cells).flatten.take (i * 2) ++ setSeg ((xs.map DSetting.cells).flatten.drop (i * 2)) 0 ((xs.map DSetting.cells).flatten.drop ((i + 1) * 2)) := by
    conv => lhs; rw [h1]
    have h3 := setSeg_right ((xs.map DSetting.cells).flatten.drop ((i + 1) * 2)) ((xs.map DSetting.cells).flatten.take (i * 2)) ((xs.map DSetting.cells).flatten.drop (i * 2)) (i * 2) (by omega)
    rw [ht, Nat.sub_self] at h3
    rw [← h1]
    conv at h3 => lhs; rw [← h1]
    exact h3
  have h4 : ∀ (us R : List Value), us.length ≤ R.length → setSeg R 0 us = us ++ R.drop us.length := fun us R hle => by
    have h6 := setSeg_over us (R.take us.length) [] (R.drop us.length) (by rw [List.length_take]; omega)
    rw [List.take_append_drop] at h6
    exact h6
  rw [h2, h4 _ _ (by rw [List.length_drop, List.length_drop]; omega)]
  have h5 : ((xs.eraseIdx i).map DSetting.cells).flatten = (xs.map DSetting.cells).flatten.take (i * 2) ++ (xs.map DSetting.cells).flatten.drop ((i + 1) * 2) := by
    have e1 : (xs.map DSetting.cells).flatten = ((xs.take i).map DSetting.cells).flatten ++ ((xs.drop i).map DSetting.cells).flatten := by rw [← List.flatten_append, ← List.map_append, List.take_append_drop]
    have e2 : (xs.map DSetting.cells).flatten = ((xs.take (i + 1)).map DSetting.cells).flatten ++ ((xs.drop (i + 1)).map DSetting.cells).flatten := by rw [← List.flatten_append, ← List.map_append, List.take_append_drop]
    have l1 : ((xs.take i).map DSetting.cells).flatten.length = i * 2 := by rw [flatSetting_length, List.length_take]; omega
    have l2 : ((xs.take (i + 1)).map DSetting.cells).flatten.length = (i + 1) * 2 := by rw [flatSetting_length, List.length_take]; omega
    have a1 : (xs.map DSetting.cells).flatten.take (i * 2) = ((xs.take i).map DSetting.cells).flatten := by rw [e1, ← l1, List.take_left]
    have a2 : (xs.map DSetting.cells).flatten.drop ((i + 1) * 2) = ((xs.drop (i + 1)).map DSetting.cells).flatten := by rw [e2, ← l2, List.drop_left]
    rw [a1, a2, List.eraseIdx_eq_take_drop_succ, List.map_append, List.flatten_append]
  rw [h5, ← List.append_assoc]
  have e : (i + d) * 2 = ((xs.map DSetting.cells).flatten.take (i * 2) ++ (xs.map DSetting.cells).flatten.drop ((i + 1) * 2)).length := by rw [List.length_append, ht, hd]; omega
  rw [e, List.take_left]

set_option maxHeartbeats 1600000 in
set_option maxRecDepth 100000 in
theorem delSetting_ok (g i d B cap : Nat) (xs : List DSetting) (w : World) (hown : w.ownsRow B 95 2 (.slice (some ⟨g, 0, none⟩) xs.length cap) xs.length (xs.map DSetting.cells).flatten) (hL : xs.length = i + d + 1) (hn : xs.length ≤ 1048576) (hB : B ≤ w.heap.size) :
    Calls Try.prog 133 #[.slice (some ⟨g, 0, none⟩) (i + d + 1) cap, .int .i64 i, .int .i64 ((i : Int) + 1)] w fun e w' => e = .returned (.slice (some ⟨g, 0, none⟩) (i + d) cap) ∧ w'.ownsRow B 95 2 (.slice (some ⟨g, 0, none⟩) (i + d) cap) (i + d) ((xs.eraseIdx i).map DSetting.cells).flatten ∧ Below B w w' := by
  obtain ⟨i0, hi, hz0, hz1, hz2⟩ := info_parts infoSetting
  have hfl := flatSetting_length xs
  obtain ⟨hBg, hcap, hm⟩ : B ≤ g ∧ xs.length ≤ cap ∧ cap ≤ maxLen := by
    rcases hown.2 with ⟨h0, _⟩ | ⟨g', cap', cur, hv, h1, h2, h3, h4, h5, h6⟩
    · cases h0
    · injection hv with a1 _ a3
      injection a1 with a1
      injection a1 with a1
      subst a1 a3
      exact ⟨h1, h3, h4⟩
  have hm2 : cap ≤ 9223372036854775807 := by unfold maxLen at hm; omega
  have hg : g < w.heap.size := (hown.lt g rfl).2
  rw [hL] at hown hcap hn
  have HO := hid hown
  have q0 : (0 : Int) ≤ (i : Int) := by omega
  have q1 : (i : Int) ≤ (i : Int) + 1 := by omega
  have q2 : (0 : Int) ≤ (i : Int) + 1 := by omega
  have q3 : (i : Int) + 1 ≤ (i : Int) + d + 1 := by omega
  have q4 : ((i : Int) + 1).toNat = i + 1 := by omega
  have q5 : ((i : Int) == (i : Int) + 1) = false := by rw [beq_eq_false_iff_ne]; omega
  have hdl : ((xs.map DSetting.cells).flatten.drop ((i + 1) * 2)).length = d * 2 := by rw [List.length_drop, hfl]; omega
  have HDL := hid hdl
  have HS := hid (show ∀ (j : Nat) u, ((xs.map DSetting.cells).flatten.drop ((i + 1) * 2))[j]? = some u → w.cell? ⟨g, (i + 1) * 2 + j, none⟩ = some u from fun j u hu => by
    have h0 := hown.cells (g := g) rfl ((i + 1) * 2 + j) u (by rw [List.getElem?_drop] at hu; exact hu)
    have hadd2 : (⟨g, 0, none⟩ : Addr).add ((i + 1) * 2 + j) = ⟨g, (i + 1) * 2 + j, none⟩ := by unfold Addr.add; split <;> simp_all
    rw [hadd2] at h0
    exact h0)
  have OW := hid (own_wsetCells ((xs.map DSetting.cells).flatten.drop ((i + 1) * 2)) (p := i * 2) (show w.drew.ownsRow B 95 2 (.slice (some ⟨g, 0, none⟩) (i + d + 1) cap) (i + d + 1) (xs.map DSetting.cells).flatten from hown))
  have BW := hid (below_wsetCells (us := (xs.map DSetting.cells).flatten.drop ((i + 1) * 2)) (p := i * 2) hBg (Below.refl B w).drew)
  have hcl : ∀ ty c, (Builtin.clear_ #[24] ty #[.slice (some ⟨g, (i + d) * 2, none⟩) 1 c]).run Try.prog (w.drew.setCells g (i * 2) ((xs.map DSetting.cells).flatten.drop ((i + 1) * 2))) = .ok (.tuple #[]) ((w.drew.setCells g (i * 2) ((xs.map DSetting.cells).flatten.drop ((i + 1) * 2))).setCells g ((i + d) * 2) [.string ⟨#[]⟩, .int .i64 0]) := fun ty c =>
    run_clear_rows _ 24 95 ty (.agg #[.string ⟨#[]⟩, .int .i64 0]) Try.underlying24 (fun _ => by kernel_rfl) g ((i + d) * 2) 1 c (by omega) _ (by rw [zeros_Setting]; rfl) (fun u hu => by
      simp only [List.mem_cons, List.not_mem_nil, or_false] at hu
      rcases hu with rfl | rfl <;> rfl)
      (fun j hj => by simp only [List.length_cons, List.length_nil] at hj; obtain ⟨u, hu⟩ := own_cell OW.out (q := (i + d) * 2 + j) (by omega); rw [hu]; rfl)
      (fun j _ => OW.out.frozenAt _)
  have HF := hid (own_shrink (own_wsetCells [.string ⟨#[]⟩, .int .i64 0] (p := (i + d) * 2) OW.out) (m := i + d) (by omega))
  have HBF := hid (below_wsetCells hBg [.string ⟨#[]⟩, .int .i64 0] (p := (i + d) * 2) BW.out)
  have q6 : (i : Int) + d ≤ (i : Int) + d + 1 := by omega
  have q7 : (i : Int) + d + 1 ≤ (cap : Int) := by omega
  have q8 : (0 : Int) ≤ (i : Int) + d := by omega
  have q9 : ((i : Int) + d + 1).toNat = i + d + 1 := by omega
  have q10 : ((i : Int) + d).toNat = i + d := by omega
  have q11 : i + d + 1 - (i + d) = 1 := by omega
  have hnc3 : ¬ (cap = i + d) := by omega
  clear hown hdl
  have hnc : ¬ (cap = i) := by omega
  have hic : i ≤ cap := by omega
  have hic2 : (i : Int) ≤ (cap : Int) := by omega
  by_cases hcc : cap = i + 1
  · have hd0 : d = 0 := by omega
    subst hd0
    subst hcc
    simp only [Nat.add_zero, Int.natCast_zero, Int.add_zero] at *
    go_enter Try.func133, Try.ntmps133
    go_wp2_with fail
    go_region_law (refine step_append_room rfl _ _ 24 rfl 95 i0 2 Try.underlying24 hi hz1 g 0 i (i + 1) (by simp [Act.eval, Act.put]) ⟨g, 0, none⟩ 0 0 ((xs.map DSetting.cells).flatten.drop ((i + 1) * 2)) (by simp [Act.eval, Act.put]) HDL.out (fun j u hu => by
        rw [List.length_eq_zero_iff.1 (show ((xs.map DSetting.cells).flatten.drop ((i + 1) * 2)).length = 0 by have := HDL.out; omega)] at hu; cases hu) (fun u hu => oneSetting xs u (List.mem_of_mem_drop hu)) (by omega) (fun j hj => ⟨by rw [HDL.out] at hj; obtain ⟨u, hu⟩ := own_cell HO.out (q := 0 + i * 2 + j) (by omega); exact (congrArg Option.isSome hu).trans rfl, HO.out.frozenAt _⟩) ?_)
    go_wp2_with fail
    go_ret
    have e := HF.out
    rw [setSeg_head _ _ (show i * 2 ≤ i * 2 by omega), show (List.take (i * 2) _) = _ from del_flat (d := 0) hL] at e
    exact ⟨rfl, e, HBF.out⟩
  · have hcc2 : ¬ (i + 1 = cap) := fun h => hcc h.symm
    go_enter Try.func133, Try.ntmps133
    go_wp2_with fail
    go_region_law (refine step_append_room rfl _ _ 24 rfl 95 i0 2 Try.underlying24 hi hz1 g 0 i cap (by simp [Act.eval, Act.put]) ⟨g, (i + 1) * 2, none⟩ d (cap - (i + 1)) ((xs.map DSetting.cells).flatten.drop ((i + 1) * 2)) (by simp [Act.eval, Act.put]) HDL.out (fun j u hu => by
        have hadd : (⟨g, (i + 1) * 2, none⟩ : Addr).add j = ⟨g, (i + 1) * 2 + j, none⟩ := by unfold Addr.add; split <;> simp_all
        rw [hadd]; exact HS.out j u hu) (fun u hu => oneSetting xs u (List.mem_of_mem_drop hu)) (by omega) (fun j hj => ⟨by rw [HDL.out] at hj; obtain ⟨u, hu⟩ := own_cell HO.out (q := 0 + i * 2 + j) (by omega); exact (congrArg Option.isSome hu).trans rfl, HO.out.frozenAt _⟩) ?_)
    go_wp2_with fail
    go_ret
    have e := HF.out
    rw [setSeg_head _ _ (show (i + d) * 2 ≤ (i + d) * 2 by omega), del_flat hL] at e
    exact ⟨rfl, e, HBF.out⟩
end Go.Proofs.Ytjeklbhdngkngaa
