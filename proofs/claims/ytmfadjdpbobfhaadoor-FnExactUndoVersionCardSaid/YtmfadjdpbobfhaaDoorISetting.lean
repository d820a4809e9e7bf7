/- Slices of Setting: a clone; an insertion; a list as an answer. -/
import Derived.Test.YtmfadjdpbobfhaaDoorRowOps
import Derived.Test.YtmfadjdpbobfhaaDoorTSetting
import Derived.Test.YtmfadjdpbobfhaaDoorHas
import Derived.Deep.RegionLaw
namespace Go.Proofs.YtmfadjdpbobfhaaDoor
open Go.RowKit
set_option linter.unusedVariables false

theorem sizeSetting : (Tryd.prog.info? 135).map (·.size) = some 2 := by kernel_rfl
theorem oneSetting (xs : List DSetting) : ∀ u ∈ (xs.map DSetting.cells).flatten, u.oneCell' = true := one_of_rows fun c hc u hu => by
  obtain ⟨x, _, rfl⟩ := List.mem_map.1 hc
  simp only [DSetting.cells, List.mem_cons, List.not_mem_nil, or_false] at hu
  rcases hu with rfl | rfl <;> rfl
theorem flatSetting_length (xs : List DSetting) : (xs.map DSetting.cells).flatten.length = xs.length * 2 := by rw [flatten_length (cellsSetting_len xs), List.length_map]

set_option maxHeartbeats 800000 in
set_option maxRecDepth 100000 in
theorem cloneSetting_ok (A : Option Addr) (c : Nat) (xs : List DSetting) (w : World) (hA : RowsAt w 2 A (xs.map DSetting.cells)) (hn : xs.length ≤ 1048576) (hnone : A = none → c = 0) :
    Calls Tryd.prog 105 #[.slice A xs.length c] w fun e w' => ∃ g, e = .returned (.slice (some ⟨g, 0, none⟩) xs.length xs.length) ∧ w'.ownsRow w.heap.size 135 2 (.slice (some ⟨g, 0, none⟩) xs.length xs.length) xs.length (xs.map DSetting.cells).flatten ∧ Below w.heap.size w w' := by
  obtain ⟨i0, hi, hz0, hz1, hz2⟩ := info_parts infoSetting
  have HA := hid hA
  have HN := hid hnone
  clear hA hnone
  go_enter Tryd.func105, Tryd.ntmps105
  go_wp2_with (first
    | (at_make; refine wpList_make_own _ rfl _ _ _ rfl w.heap.size 135 i0 (.agg #[.string ⟨#[]⟩, .int .i64 0]) 2 Tryd.underlying86 hi hz0 hz1 .i64 .i64 _ xs.length rfl rfl rfl (by rw [hz2]; omega) (by unfold maxLen; omega) (Nat.le_refl _) ?_; intro w1 hown1 hg1; have HB := hid ((Below.refl _ _).grown hg1 (Nat.le_refl _) (fun k hk => by cases hk)); have HS := hid ((HA.out.below HB.out).src (cellsSetting_len xs) (by omega)); have HO1 := hid hown1; clear hg1 hown1)
    | (at_builtin; refine wpList_append_fits_any _ rfl _ _ 86 rfl w.heap.size 135 i0 2 Tryd.underlying86 hi hz1 _ 0 xs.length [] rfl HO1.out A xs.length c (xs.map DSetting.cells).flatten rfl (flatSetting_length xs) (fun h => fits_none HS.out HN.out (flatSetting_length xs) (by omega) h) (fun ad had j u hu => fits_some HS.out had hu) (oneSetting xs) (by omega) ?_; intro w2 hown2 hg2; simp only [Nat.zero_add, List.nil_append] at hown2))
  have HO := hid hown2
  have HB2 := hid (HB.out.grown hg2 HB.out.size (fun k hk => by injection hk with hk; subst hk; exact Nat.le_refl _))
  clear hown2 hg2
  (try go_wp2_with fail)
  go_ret
  exact ⟨w.heap.size, by simp, HO.out, HB2.out⟩

/-- x laid in at place i -/
def insSetting (xs : List DSetting) (i : Nat) (x : DSetting) : List DSetting := xs.take i ++ [x] ++ xs.drop i
theorem insSetting_length {xs : List DSetting} {i : Nat} {x : DSetting} (h : i ≤ xs.length) : (insSetting xs i x).length = xs.length + 1 := by simp [insSetting]; omega
theorem insSetting_flat {xs : List DSetting} {i : Nat} {x : DSetting} : ((insSetting xs i x).map DSetting.cells).flatten = ((xs.map DSetting.cells).flatten.take (i * 2) ++ x.cells) ++ (xs.map DSetting.cells).flatten.drop (i * 2) := by
  have h1 : (xs.map DSetting.cells).flatten = ((xs.take i).map DSetting.cells).flatten ++ ((xs.drop i).map DSetting.cells).flatten := by rw [← List.flatten_append, ← List.map_append, List.take_append_drop]
  have h2 : ((xs.take i).map DSetting.cells).flatten.length = (xs.take i).length * 2 := flatSetting_length _
  rcases Nat.le_total i xs.length with h | h
  · have h3 : (xs.take i).length = i := by rw [List.length_take]; omega
    rw [h3] at h2
    rw [h1, ← h2, List.take_left, List.drop_left]
    simp [insSetting, List.append_assoc]
  · rw [List.take_of_length_le (by rw [flatSetting_length]; exact Nat.mul_le_mul_right _ h), List.drop_of_length_le (by rw [flatSetting_length]; exact Nat.mul_le_mul_right _ h)]
    simp [insSetting, List.take_of_length_le h, List.drop_of_length_le h]


end Go.Proofs.YtmfadjdpbobfhaaDoor
