/- Slices of Setting: a clone; an insertion; a list as an answer. -/
import Derived.Test.YtjeklbhdngkngaaRowOps
import Derived.Test.YtjeklbhdngkngaaTSetting
import Derived.Test.YtjeklbhdngkngaaHas
import Derived.Deep.RegionLaw
namespace Go.Proofs.Ytjeklbhdngkngaa
open Go.RowKit
set_option linter.unusedVariables false

theorem sizeSetting : (Try.prog.info? 95).map (·.size) = some 2 := by kernel_rfl
theorem oneSetting (xs : List DSetting) : ∀ u ∈ (xs.map DSetting.cells).flatten, u.oneCell' = true := one_of_rows fun c hc u hu => by
  obtain ⟨x, _, rfl⟩ := List.mem_map.1 hc
  simp only [DSetting.cells, List.mem_cons, List.not_mem_nil, or_false] at hu
  rcases hu with rfl | rfl <;> rfl
theorem flatSetting_length (xs : List DSetting) : (xs.map DSetting.cells).flatten.length = xs.length * 2 := by rw [flatten_length (cellsSetting_len xs), List.length_map]

set_option maxHeartbeats 800000 in
set_option maxRecDepth 100000 in
theorem cloneSetting_ok (A : Option Addr) (c : Nat) (xs : List DSetting) (w : World) (hA : RowsAt w 2 A (xs.map DSetting.cells)) (hn : xs.length ≤ 1048576) (hnone : A = none → c = 0) :
    Calls Try.prog 79 #[.slice A xs.length c] w fun e w' => ∃ g, e = .returned (.slice (some ⟨g, 0, none⟩) xs.length xs.length) ∧ w'.ownsRow w.heap.size 95 2 (.slice (some ⟨g, 0, none⟩) xs.length xs.length) xs.length (xs.map DSetting.cells).flatten ∧ Below w.heap.size w w' := by
  obtain ⟨i0, hi, hz0, hz1, hz2⟩ := info_parts infoSetting
  have HA := hid hA
  have HN := hid hnone
  clear hA hnone
  go_enter Try.func79, Try.ntmps79
  go_wp2_with (first
    | (at_make; refine wpList_make_own _ rfl _ _ _ rfl w.heap.size 95 i0 (.agg #[.string ⟨#[]⟩, .int .i64 0]) 2 Try.underlying24 hi hz0 hz1 .i64 .i64 _ xs.length rfl rfl rfl (by rw [hz2]; omega) (by unfold maxLen; omega) (Nat.le_refl _) ?_; intro w1 hown1 hg1; have HB := hid ((Below.refl _ _).grown hg1 (Nat.le_refl _) (fun k hk => by cases hk)); have HS := hid ((HA.out.below HB.out).src (cellsSetting_len xs) (by omega)); have HO1 := hid hown1; clear hg1 hown1)
    | (at_builtin; refine wpList_append_fits_any _ rfl _ _ 24 rfl w.heap.size 95 i0 2 Try.underlying24 hi hz1 _ 0 xs.length [] rfl HO1.out A xs.length c (xs.map DSetting.cells).flatten rfl (flatSetting_length xs) (fun h => fits_none HS.out HN.out (flatSetting_length xs) (by omega) h) (fun ad had j u hu => fits_some HS.out had hu) (oneSetting xs) (by omega) ?_; intro w2 hown2 hg2; simp only [Nat.zero_add, List.nil_append] at hown2))
  have HO := hid hown2
  have HB2 := hid (HB.out.grown hg2 HB.out.size (fun k hk => by injection hk with hk; subst hk; exact Nat.le_refl _))
  clear hown2 hg2
  (try go_wp2_with fail)
  go_ret
  exact ⟨w.heap.size, by simp, HO.out, HB2.out⟩

/-- x laid in at place i -/
def insSetting (xs : List DSetting) (i : Nat) (x : DSetting) : List DSetting := xs.take i ++ [x] ++ xs.drop i
theorem insSetting_length {xs : List DSetting} {i : Nat} {x : DSetting} (h : i ≤ xs.length) : (insSetting xs i x).length = xs.length + 1 := by simp [insSetting]; omega
theorem insSetting_flat {xs : List DSetting} {i : Nat} {x : DSetting} : ((insSetting xs i x).map DSetting.cells).flatten = ((xs.map DSetting.cells).flatten.take (i * 2) ++ x.cells) ++ (xs.map DSetting.cells).flatten.drop (i * 2) := by
  have h1 : (xs.map DSetting.cells).flatten = ((xs.take i).map DSetting.cells).flatten ++ ((xs.drop i).map DSetting.cells).flatten := by rw [← List.flatten_append, ← List.map_append, List.take_append_drop]
  have h2 : ((xs.take i).map DSetting.cells).flatten.length = (xs.take i).length * 2 := flatSetting_length _
  rcases Nat.le_total i xs.length with h | h
  · have h3 : (xs.take i).length = i := by rw [List.length_take]; omega
    rw [h3] at h2
    rw [h1, ← h2, List.take_left, List.drop_left]
    simp [insSetting, List.append_assoc]
  · rw [List.take_of_length_le (by rw [flatSetting_length]; exact Nat.mul_le_mul_right _ h), List.drop_of_length_le (by rw [flatSetting_length]; exact Nat.mul_le_mul_right _ h)]
    simp [insSetting, List.take_of_length_le h, List.drop_of_length_le h]

set_option maxHeartbeats 1600000 in
set_option maxRecDepth 100000 in
theorem insertSetting_ok (g i vb vc B : Nat) (xs : List DSetting) (x : DSetting) (w : World) (hown : w.ownsRow B 95 2 (.slice (some ⟨g, 0, none⟩) xs.length xs.length) xs.length (xs.map DSetting.cells).flatten) (hi : i ≤ xs.length) (hv : ∀ j u, x.cells[j]? = some u → w.cell? ⟨vb, j, none⟩ = some u) (hvb : vb < w.heap.size) (hn : xs.length ≤ 1048576) (hB : B ≤ w.heap.size) :
    Calls Try.prog 132 #[.slice (some ⟨g, 0, none⟩) xs.length xs.length, .int .i64 i, .slice (some ⟨vb, 0, none⟩) 1 vc] w fun e w' => ∃ A c, e = .returned (.slice A (xs.length + 1) c) ∧ w'.ownsRow B 95 2 (.slice A (xs.length + 1) c) (xs.length + 1) ((insSetting xs i x).map DSetting.cells).flatten ∧ Below B w w' := by
  have HX := hid (insSetting_flat (xs := xs) (i := i) (x := x))
  have HV := hid hv
  have h1x : ∀ u ∈ x.cells, u.oneCell' = true := by
    intro u hu
    have := oneSetting [x] u (by simpa using hu)
    exact this
  have H1 := hid h1x
  have hfl := flatSetting_length xs
  have HF := hid hfl
  clear hv h1x hfl
  rcases Nat.lt_or_ge i xs.length with hlt | hge
  · have hz2 : ((i : Int) == (xs.length : Int)) = false := by rw [beq_eq_false_iff_ne]; omega
    have hkk : (xs.length : Int) + 1 - (i : Int) = ((xs.length + 1 - i : Nat) : Int) := by omega
    have HK := hid hkk
    have HO := hid hown
    have hm1 : i * 2 ≤ xs.length * 2 := Nat.mul_le_mul_right _ hi
    have hg : g < w.heap.size := (hown.lt g rfl).2
    have hnc : ¬ (xs.length = i) := by omega
    have hi0 : (0 : Int) ≤ (i : Int) := by omega
    have hi1 : (i : Int) ≤ xs.length := by omega
    clear hkk hown
    go_enter Try.func132, Try.ntmps132
    have hw1 : IntKind.i64.wrap ((i : Int) + 1) = (i : Int) + 1 := IntWalk.i64_in _ (by omega)
    have hb1 : (0 : Int) ≤ (i : Int) + 1 := by omega
    have htn : ((i : Int) + 1).toNat = i + 1 := by omega
    have hb4 : (i : Int) + 1 ≤ (xs.length : Int) + 1 := by omega
    go_wp2_with (at_builtin; refine wpList_app_zeros (w0 := w) rfl _ _ 24 3 rfl B 95 (.agg #[.string ⟨#[]⟩, .int .i64 0]) 2 24 Try.underlying24 Try.underlying3 infoSetting rfl (by decide) g xs.length xs.length _ HO.out i (xs.length + 1 - i) (xs.length + 1) (by omega) _ rfl rfl HK.out (by omega) (by omega) (by omega) (by omega) hB (Below.refl _ _) ?_; intro w1 c1 row hc1 hc2 hrl hrt HC hb0 hb1'; have HB0 := hid hb0; have HB1 := hid hb1'; have HR := hid hrl; have HT := hid hrt; have HM := hid hc2; have hc3 : c1 ≤ 9223372036854775807 := (by unfold maxLen at hc2; omega); have hnc2 : ¬ (c1 = i) := (by omega); have hnc3 : ¬ (c1 = i + 1) := (by omega); have hrl2 := hid (Nat.mul_le_mul_right 2 hc1); clear hb0 hb1' hrl hrt hc2; obtain ⟨w2, hrun, HC2, HD1, HD0⟩ := run_copy_some (P := Try.prog) (sT := 24) (ty := 3) Try.underlying24 sizeSetting w.heap.size (i * 2) (xs.length + 1 - i) (c1 - i) ⟨vb, 0, none⟩ 1 vc 1 (Nat.min_eq_left (by omega)) row 95 HC x.cells rfl (fun j u hu => src_at (HB0.out.cell (p := ⟨vb, j, none⟩) hvb) (HV.out j u hu)) (by have h1 := HR.out; have h2 := hrl2.out; show i * 2 + 2 ≤ row.length; omega) H1.out B HB1.out hB HB0.out)
    have hsl := hid (splice_length (row := row) (u := x.cells) (p := i * 2) (by have h1 := HR.out; have h2 := hrl2.out; show i * 2 + 2 ≤ row.length; omega))
    have hdl := hid (show ((xs.map DSetting.cells).flatten.drop (i * 2)).length = (xs.length - i) * 2 by rw [List.length_drop, HF.out, Nat.sub_mul])
    go_region_law (refine step_copy_rows (w0 := w) (w1 := w) rfl _ _ 24 24 rfl 95 2 Try.underlying24 sizeSetting w.heap.size ((i + 1) * 2) (xs.length + 1 - (i + 1)) (c1 - (i + 1)) ⟨g, i * 2, none⟩ (xs.length - i) (xs.length - i) (by simp [Act.eval, Act.put]) (by simp [Act.eval, Act.put]) (splice row (i * 2) x.cells) 95 HC2.out ((xs.map DSetting.cells).flatten.drop (i * 2)) (by rw [hdl.out]; congr 1; exact (Nat.min_eq_left (by omega)).symm) (fun j u hu => by
          have hadd : (⟨g, i * 2, none⟩ : Addr).add j = ⟨g, i * 2 + j, none⟩ := by unfold Addr.add; split <;> simp_all
          have h0 := HO.out.cells (g := g) rfl (i * 2 + j) u (by rw [List.getElem?_drop] at hu; exact hu)
          have hadd2 : (⟨g, 0, none⟩ : Addr).add (i * 2 + j) = ⟨g, i * 2 + j, none⟩ := by unfold Addr.add; split <;> simp_all
          rw [hadd2] at h0
          rw [hadd]; exact (HD0.out.drew.cell (p := ⟨g, i * 2 + j, none⟩) hg).trans h0) (by rw [hsl.out, hdl.out]; have h1 := HR.out; have h2 := hrl2.out; omega) (fun u hu => oneSetting xs u (List.mem_of_mem_drop hu)) B HD1.out.drew hB w.heap.size HD0.out.drew (Nat.le_refl _) ?_; intro w3 HC3 hb3 hb3')
    have HE := hid hb3
    clear hb3 hb3' hrun
    go_wp2_with fail
    go_ret
    refine ⟨_, _, rfl, ⟨?_, .inr ⟨w.heap.size, c1, _, rfl, hB, HC3.out, hc1, HM.out, ?_, ?_⟩⟩, HE.out⟩
    · rw [flatSetting_length, insSetting_length hi]
    · rw [List.size_toArray, splice_length (by rw [hsl.out, hdl.out]; have h1 := HR.out; have h2 := hrl2.out; omega), hsl.out, HR.out]
    · have e := insert_splice (a := (xs.map DSetting.cells).flatten.take (i * 2)) (u := x.cells) (d := (xs.map DSetting.cells).flatten.drop (i * 2)) (row := row) (p := i * 2) (k := 2) (by rw [List.length_take, HF.out]; omega) rfl HT.out (by rw [hdl.out]; have h1 := HR.out; have h2 := hrl2.out; omega)
      rw [hdl.out] at e
      have e1 : (i + 1) * 2 = i * 2 + 2 := by omega
      have e2 : (xs.length + 1) * 2 = i * 2 + 2 + (xs.length - i) * 2 := by omega
      rw [HX.out, e1, e2]
      simpa using e
  · obtain rfl : i = xs.length := by omega
    go_enter Try.func132, Try.ntmps132
    go_wp2_with (at_builtin; refine wpList_app_src (w0 := w) rfl _ _ 24 rfl B 95 (.agg #[.string ⟨#[]⟩, .int .i64 0]) 2 24 Try.underlying24 infoSetting rfl (by decide) _ xs.length _ rfl hown (some ⟨vb, 0, none⟩) 1 vc x.cells rfl (by rfl) (fun h => by cases h) (fun _ => ⟨_, rfl, fun j u hu => by
        have hadd : (⟨vb, 0, none⟩ : Addr).add j = ⟨vb, j, none⟩ := by unfold Addr.add; split <;> simp_all
        rw [hadd]; exact HV.out j u hu⟩) H1.out (by omega) hB (Below.refl _ _) ?_; intro v1 w1 hown1 hb1 hz1)
    have HO := hid hown1
    clear hown1 hown
    go_wp2_with fail
    go_ret
    have e : ((insSetting xs xs.length x).map DSetting.cells).flatten = (xs.map DSetting.cells).flatten ++ x.cells := by
      rw [HX.out, List.take_of_length_le (by rw [HF.out]; exact Nat.le_refl _), List.drop_of_length_le (by rw [HF.out]; exact Nat.le_refl _), List.append_nil]
    rw [e]
    obtain ⟨A', c', hv⟩ : ∃ A' c', v1 = .slice A' (xs.length + 1) c' := by
      rcases HO.out.2 with ⟨h1, h2⟩ | ⟨g', cap, cur, h1, _⟩
      · omega
      · exact ⟨_, _, h1⟩
    subst hv
    exact ⟨A', c', rfl, HO.out, hb1⟩

end Go.Proofs.Ytjeklbhdngkngaa
