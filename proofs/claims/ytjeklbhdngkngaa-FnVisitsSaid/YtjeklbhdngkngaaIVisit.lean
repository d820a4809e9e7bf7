/- Slices of Visit: a clone; an insertion; a list as an answer. -/
import Derived.Test.YtjeklbhdngkngaaRowOps
import Derived.Test.YtjeklbhdngkngaaTVisit
import Derived.Test.YtjeklbhdngkngaaHas
import Derived.Deep.RegionLaw
namespace Go.Proofs.Ytjeklbhdngkngaa
open Go.RowKit
set_option linter.unusedVariables false

theorem sizeVisit : (Try.prog.info? 76).map (·.size) = some 4 := by kernel_rfl
theorem oneVisit (xs : List DVisit) : ∀ u ∈ (xs.map DVisit.cells).flatten, u.oneCell' = true := one_of_rows fun c hc u hu => by
  obtain ⟨x, _, rfl⟩ := List.mem_map.1 hc
  simp only [DVisit.cells, List.mem_cons, List.not_mem_nil, or_false] at hu
  rcases hu with rfl | rfl | rfl | rfl <;> rfl
theorem flatVisit_length (xs : List DVisit) : (xs.map DVisit.cells).flatten.length = xs.length * 4 := by rw [flatten_length (cellsVisit_len xs), List.length_map]

set_option maxHeartbeats 800000 in
set_option maxRecDepth 100000 in
theorem cloneVisit_ok (A : Option Addr) (c : Nat) (xs : List DVisit) (w : World) (hA : RowsAt w 4 A (xs.map DVisit.cells)) (hn : xs.length ≤ 1048576) (hnone : A = none → c = 0) :
    Calls Try.prog 96 #[.slice A xs.length c] w fun e w' => ∃ g, e = .returned (.slice (some ⟨g, 0, none⟩) xs.length xs.length) ∧ w'.ownsRow w.heap.size 76 4 (.slice (some ⟨g, 0, none⟩) xs.length xs.length) xs.length (xs.map DVisit.cells).flatten ∧ Below w.heap.size w w' := by
  obtain ⟨i0, hi, hz0, hz1, hz2⟩ := info_parts infoVisit
  have HA := hid hA
  have HN := hid hnone
  clear hA hnone
  go_enter Try.func96, Try.ntmps96
  go_wp2_with (first
    | (at_make; refine wpList_make_own _ rfl _ _ _ rfl w.heap.size 76 i0 (.agg #[.int .i64 0, .string ⟨#[]⟩, .int .i64 0, .int .i64 0]) 4 Try.underlying50 hi hz0 hz1 .i64 .i64 _ xs.length rfl rfl rfl (by rw [hz2]; omega) (by unfold maxLen; omega) (Nat.le_refl _) ?_; intro w1 hown1 hg1; have HB := hid ((Below.refl _ _).grown hg1 (Nat.le_refl _) (fun k hk => by cases hk)); have HS := hid ((HA.out.below HB.out).src (cellsVisit_len xs) (by omega)); have HO1 := hid hown1; clear hg1 hown1)
    | (at_builtin; refine wpList_append_fits_any _ rfl _ _ 50 rfl w.heap.size 76 i0 4 Try.underlying50 hi hz1 _ 0 xs.length [] rfl HO1.out A xs.length c (xs.map DVisit.cells).flatten rfl (flatVisit_length xs) (fun h => fits_none HS.out HN.out (flatVisit_length xs) (by omega) h) (fun ad had j u hu => fits_some HS.out had hu) (oneVisit xs) (by omega) ?_; intro w2 hown2 hg2; simp only [Nat.zero_add, List.nil_append] at hown2))
  have HO := hid hown2
  have HB2 := hid (HB.out.grown hg2 HB.out.size (fun k hk => by injection hk with hk; subst hk; exact Nat.le_refl _))
  clear hown2 hg2
  (try go_wp2_with fail)
  go_ret
  exact ⟨w.heap.size, by simp, HO.out, HB2.out⟩

/-- x laid in at place i -/
def insVisit (xs : List DVisit) (i : Nat) (x : DVisit) : List DVisit := xs.take i ++ [x] ++ xs.drop i
theorem insVisit_length {xs : List DVisit} {i : Nat} {x : DVisit} (h : i ≤ xs.length) : (insVisit xs i x).length = xs.length + 1 := by simp [insVisit]; omega
theorem insVisit_flat {xs : List DVisit} {i : Nat} {x : DVisit} : ((insVisit xs i x).map DVisit.cells).flatten = ((xs.map DVisit.cells).flatten.take (i * 4) ++ x.cells) ++ (xs.map DVisit.cells).flatten.drop (i * 4) := by
  have h1 : (xs.map DVisit.cells).flatten = ((xs.take i).map DVisit.cells).flatten ++ ((xs.drop i).map DVisit.cells).flatten := by rw [← List.flatten_append, ← List.map_append, List.take_append_drop]
  have h2 : ((xs.take i).map DVisit.cells).flatten.length = (xs.take i).length * 4 := flatVisit_length _
  rcases Nat.le_total i xs.length with h | h
  · have h3 : (xs.take i).length = i := by rw [List.length_take]; omega
    rw [h3] at h2
    rw [h1, ← h2, List.take_left, List.drop_left]
    simp [insVisit, List.append_assoc]
  · rw [List.take_of_length_le (by rw [flatVisit_length]; exact Nat.mul_le_mul_right _ h), List.drop_of_length_le (by rw [flatVisit_length]; exact Nat.mul_le_mul_right _ h)]
    simp [insVisit, List.take_of_length_le h, List.drop_of_length_le h]


end Go.Proofs.Ytjeklbhdngkngaa
