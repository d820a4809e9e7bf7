/- impl's sortedSet: sorting and compacting a list of texts of the call's own. -/
import Derived.Test.YtjeklbhdngkngaaStrs
import Derived.Test.YtjeklbhdngkngaaShelf
import Derived.Sort.OwnSorted
import Derived.Sort.Grow
import Derived.Lib.OwnBridge
namespace Go.Proofs.Ytjeklbhdngkngaa
open Go.RowKit Go.Shelf Go.Sort
set_option linter.unusedVariables false

theorem vS_enc : (vS : Str → Value) = encStr := rfl

/-- from what the two contracts leave -/
theorem sorted_left {w w1 : World} {g cap n nn q : Nat} {os : Array Obj} {ss : List Str} (hown : w1.ownsRow w.heap.size 9 1 (.slice (some ⟨g, 0, none⟩) n cap) n (ss.map encStr)) (hbel : Below w.heap.size w w1) (hbg : w.heap.size ≤ g) (hlen : ss.length = n) :
    (putRow encStr (Sort.ahead (grow (putRow encStr (Sort.ahead w1 nn) g 0 (ss.mergeSort fun x y => decide (x ≤ y)).toArray) os) q) g 0 (Lib.compact (ss.mergeSort fun x y => decide (x ≤ y)) ++ List.replicate (n - (Lib.compact (ss.mergeSort fun x y => decide (x ≤ y))).length) []).toArray).ownsRow w.heap.size 9 1 (.slice (some ⟨g, 0, none⟩) (setOf ss).length cap) (setOf ss).length ((setOf ss).map vS) ∧
    Below w.heap.size w (putRow encStr (Sort.ahead (grow (putRow encStr (Sort.ahead w1 nn) g 0 (ss.mergeSort fun x y => decide (x ≤ y)).toArray) os) q) g 0 (Lib.compact (ss.mergeSort fun x y => decide (x ≤ y)) ++ List.replicate (n - (Lib.compact (ss.mergeSort fun x y => decide (x ≤ y))).length) []).toArray) := by
  have hl2 : (ss.mergeSort fun x y => decide (x ≤ y)).length = ss.length := List.length_mergeSort ss
  have hle := Lib.compact_length_le (ss.mergeSort fun x y => decide (x ≤ y))
  subst hlen
  rcases hown.2 with ⟨h0, _⟩ | ⟨g', cap', cur, hv, hbase, hb, h1, h2, h3, h4⟩
  · cases h0
  cases hv
  have hs := ownsRow_sorted (n := nn) (os := os) (ts := ss.mergeSort fun x y => decide (x ≤ y)) hl2 hbase hb h1 h2 h3
  have hc := Lib.ownsRow_putRow (q := q) (k := (Lib.compact (ss.mergeSort fun x y => decide (x ≤ y))).length) (ys := Lib.compact (ss.mergeSort fun x y => decide (x ≤ y)) ++ List.replicate (ss.length - (Lib.compact (ss.mergeSort fun x y => decide (x ≤ y))).length) []) hs (by simp; omega) (by omega)
  rw [List.take_left] at hc
  rw [← sorted_set, vS_enc]
  exact ⟨hc, Lib.below_putRow (hbel.grown (grownBy_sorted _) hbel.size (fun j hj => by cases hj; exact hbase)) hbg⟩

set_option maxHeartbeats 2000000 in
set_option maxRecDepth 100000 in
theorem sortedSet_ok (g c : Nat) (ss : List Str) (w w1 : World) (hown : w1.ownsRow w.heap.size 9 1 (.slice (some ⟨g, 0, none⟩) ss.length c) ss.length (ss.map vS)) (hbel : Below w.heap.size w w1) (hn : ss.length ≤ 1048576) :
    Calls Try.prog 129 #[.slice (some ⟨g, 0, none⟩) ss.length c] w1 fun e w' => e = .returned (.slice (some ⟨g, 0, none⟩) (setOf ss).length c) ∧ w'.ownsRow w.heap.size 9 1 (.slice (some ⟨g, 0, none⟩) (setOf ss).length c) (setOf ss).length ((setOf ss).map vS) ∧ Below w.heap.size w w' := by
  rw [vS_enc] at hown
  obtain ⟨g', cap, hv, hbg, hgl, hncap, hcm, hlen, hH⟩ := Lib.holds_of_ownsRow hown (by intro h; cases h)
  cases hv
  have X := hid hown
  have HB := hid hbel
  have HH := hid hH
  have hsort := Try.slices_Sort_string g 0 c ss w1 hH hgl (by omega)
  obtain ⟨n, hn0⟩ : ∃ n, n = ss.length := ⟨_, rfl⟩
  have HN := hid hn0
  rw [← hn0] at hsort
  rw [← hn0]
  clear hown hbel hH hlen hn0
  have HS := hid hsort
  clear hsort
  have HM := hid (show (ss.mergeSort fun x y => decide (x ≤ y)).length = n by rw [List.length_mergeSort]; exact HN.out.symm)
  go_enter Try.func129, Try.ntmps129
  go_wp2_with fail
  refine HS.out.mono ?_
  rintro e w2 ⟨rfl, nn, os, rfl⟩
  have hH2 : Holds encStr (grow (putRow encStr (Sort.ahead w1 nn) g 0 (ss.mergeSort fun x y => decide (x ≤ y)).toArray) os) g 0 (ss.mergeSort fun x y => decide (x ≤ y)).toArray :=
    holds_grow encStr _ os g 0 _ (by simpa [putRow, mapBlock, Sort.ahead] using hgl) (holds_putRow encStr _ g 0 _ _ (holds_ahead encStr w1 nn g 0 _ HH.out) (by simp))
  have hcomp := Try.slices_Compact_string g 0 c (ss.mergeSort fun x y => decide (x ≤ y)) _ hH2 (by have := HM.out; have := HN.out; omega) (by have := HM.out; have := HN.out; omega)
  rw [HM.out] at hcomp
  have HC := hid hcomp
  clear hH2 hcomp
  go_wp2_with fail
  refine HC.out.mono ?_
  rintro e w3 ⟨rfl, q, rfl⟩
  go_wp2_with fail
  go_ret
  have hfin := sorted_left (nn := nn) (q := q) (os := os) (HN.out ▸ X.out) HB.out hbg HN.out.symm
  exact ⟨by rw [← sorted_set]; rfl, hfin.1, hfin.2⟩

end Go.Proofs.Ytjeklbhdngkngaa
