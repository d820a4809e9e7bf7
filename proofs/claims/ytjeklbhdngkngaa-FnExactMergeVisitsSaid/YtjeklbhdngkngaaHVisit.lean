/- The laws' marks laid into a slice of Visit: what it then holds; that it is held. -/
import Derived.Test.YtjeklbhdngkngaaMarks
import Derived.Test.YtjeklbhdngkngaaRowsKit
import Derived.Test.YtjeklbhdngkngaaTVisit
import Derived.Test.YtjeklbhdngkngaaKeepM
namespace Go.Proofs.Ytjeklbhdngkngaa
open Go.RowKit
set_option linter.unusedVariables false

def mkVisit (z : Int) : DVisit := ⟨z, markT (z + 1).toNat, z + 1 + 1, z + 1 + 1 + 1⟩
def mksVisit (k : Int) (n : Nat) : List DVisit := (List.range n).map fun (i : Nat) => mkVisit (k + 4 * (i : Int))
theorem mksVisit_length (k : Int) (n : Nat) : (mksVisit k n).length = n := by simp [mksVisit]
theorem mksVisit_succ (k : Int) (n : Nat) : mksVisit k (n + 1) = mksVisit k n ++ [mkVisit (k + 4 * (n : Int))] := by
  unfold mksVisit
  rw [List.range_succ, List.map_append]
  rfl
theorem mksVisit_at {k : Int} {n i : Nat} (h : i < n) : (mksVisit k n)[i]? = some (mkVisit (k + 4 * (i : Int))) := by
  unfold mksVisit
  rw [List.getElem?_map, List.getElem?_range h]
  rfl
theorem mksVisit_set {k : Int} {xs : List DVisit} {j : Nat} (h : j < xs.length) : (mksVisit k j ++ xs.drop j).set j (mkVisit (k + 4 * (j : Int))) = mksVisit k (j + 1) ++ xs.drop (j + 1) := by
  rw [List.set_append_right _ _ (by rw [mksVisit_length]; omega), mksVisit_length, Nat.sub_self, List.drop_eq_getElem_cons h, List.set_cons_zero, mksVisit_succ, List.append_assoc]
  rfl
def MarkVisit (w : World) (B h : Nat) (k : Int) (xs : List DVisit) (A : Option Addr) (c : Nat) (i m : Value) (wr : World) : Prop :=
  ∃ (j : Nat) (z : Int), j ≤ xs.length ∧ i = .int .i64 j ∧ m = .int .i64 z ∧ 0 < z ∧ z ≤ 1000000000000000 + 4 * (j : Int) ∧ z = k + 4 * (j : Int) ∧ wr.ownsRow B 76 4 (.slice A xs.length c) xs.length ((mksVisit k j ++ xs.drop j).map DVisit.cells).flatten ∧ Chg B h w wr

set_option maxHeartbeats 1600000 in
set_option maxRecDepth 100000 in
theorem markVisitX_ok (A : Option Addr) (c B h : Nat) (xs : List DVisit) (k : Int) (w : World) (hown : w.ownsRow B 76 4 (.slice A xs.length c) xs.length (xs.map DVisit.cells).flatten) (hlt : ∀ g, (Value.slice A xs.length c).ownBlock = some g → g < h) (hk0 : 0 < k) (hk1 : k ≤ 1000000000000000) (hn : xs.length ≤ 1099511627776) :
    Calls Try.prog 35 #[.slice A xs.length c, .int .i64 k] w fun e w' => e = .returned (.int .i64 (k + 4 * (xs.length : Int))) ∧ w'.ownsRow B 76 4 (.slice A xs.length c) xs.length ((mksVisit k xs.length).map DVisit.cells).flatten ∧ Chg B h w w' := by
  have HL := hid hlt
  have HO0 := hid hown
  clear hlt hown
  go_enter Try.func35, Try.ntmps35
  go_wp2_with fail
  go_loopw [5, 1] (fun i m wr => MarkVisit w B h k xs A c i m wr) (fun i _ _ => xs.length - (intOf i).toNat)
  case atStart => exact ⟨0, k, Nat.zero_le _, rfl, rfl, hk0, by omega, by simp, by simpa [mksVisit] using HO0.out, Chg.refl _ _ _⟩
  case round =>
    obtain ⟨j, z, hj, rfl, rfl, hz0, hz1, hz2, hown, hch⟩ := hrel
    have HZ := hid hz2
    clear hz2
    by_cases hjl : j < xs.length
    · obtain ⟨g, cap, hv, hBg, _, _⟩ := own_form hown (by omega)
      obtain ⟨rfl, _, rfl⟩ : A = some ⟨g, 0, none⟩ ∧ xs.length = xs.length ∧ c = cap := by injection hv with a1 a2 a3; exact ⟨a1, a2, a3⟩
      have hgh := HL.out g rfl
      have HM := hid (mksVisit_set (k := k) hjl)
      have O0 := hid hown
      have C0 := hid hch
      clear hown hv hch HL HO0
      have P0 := O0
      have Q0 := C0
      obtain ⟨u0, hold0⟩ := own_cell P0.out (q := j * 4) (by omega)
      have hfr0 := P0.out.frozenAt (j * 4)
      have O1 := hid (own_setCells [.int .i64 (z)] (p := j * 4) P0.out)
      have C1 := hid (Chg.setCells hBg hgh [.int .i64 (z)] (p := j * 4) Q0.out)
      go_wp2_with fail
      refine (markText_i _ _ (by omega) (by omega)).mono ?_
      rintro e w2 ⟨rfl, hb⟩
      have P1 := hid (own_below O1.out hb)
      have Q1 := hid (C1.out.then_below hb)
      clear hb
      obtain ⟨u1, hold1⟩ := own_cell P1.out (q := j * 4 + 1) (by omega)
      have hfr1 := P1.out.frozenAt (j * 4 + 1)
      obtain ⟨u2, hold2⟩ := own_cell P1.out (q := j * 4 + 2) (by omega)
      have hfr2 := P1.out.frozenAt (j * 4 + 2)
      obtain ⟨u3, hold3⟩ := own_cell P1.out (q := j * 4 + 3) (by omega)
      have hfr3 := P1.out.frozenAt (j * 4 + 3)
      have O2 := hid (own_setCells [.string (markT (z + 1).toNat), .int .i64 (z + 1 + 1), .int .i64 (z + 1 + 1 + 1)] (p := j * 4 + 1) P1.out)
      have C2 := hid (Chg.setCells hBg hgh [.string (markT (z + 1).toNat), .int .i64 (z + 1 + 1), .int .i64 (z + 1 + 1 + 1)] (p := j * 4 + 1) Q1.out)
      go_wp2_with fail
      go_roundw
      case rel =>
        refine ⟨j + 1, z + 1 + 1 + 1 + 1, by omega, by go_num, by go_num, by omega, by omega, by have := HZ.out; omega, ?_, C2.out⟩
        have e := O2.out
        have e2 : setSeg ((mksVisit k j ++ xs.drop j).map DVisit.cells).flatten (j * 4) (mkVisit z).cells = ((mksVisit k (j + 1) ++ xs.drop (j + 1)).map DVisit.cells).flatten := by
          rw [setSeg_flatten (cellsVisit_len _) (by simp [mksVisit_length]; omega) rfl, ← List.map_set (f := DVisit.cells), HZ.out, HM.out]
        rw [← e2]
        exact e
      case measure => simp [intOf]; omega
    · have hj2 : j = xs.length := by omega
      subst hj2
      have HO := hid hown
      clear hown
      have hfin := HZ.out
      subst hfin
      go_wp2_with fail
      go_ret
      exact ⟨rfl, by have := HO.out; simpa using this, hch⟩

set_option maxHeartbeats 1600000 in
set_option maxRecDepth 100000 in
theorem heldVisitS_ok (A : Option Addr) (c n : Nat) (k : Int) (w : World) (hA : RowsAt w 4 A ((mksVisit k n).map DVisit.cells)) (hk0 : 0 < k) (hk1 : k ≤ 1000000000000000) (hn : n ≤ 1099511627776) :
    Calls Try.prog 36 #[.slice A n c, .int .i64 k] w fun e w' => e = .returned (.int .i64 (k + 4 * (n : Int))) ∧ Below w.heap.size w w' := by
  have HA := hid hA
  clear hA
  go_enter Try.func36, Try.ntmps36
  go_wp2_with fail
  go_loopw [5, 1] (fun i m wr => ∃ (j : Nat) (z : Int), j ≤ n ∧ i = .int .i64 j ∧ m = .int .i64 z ∧ 0 < z ∧ z ≤ 1000000000000000 + 4 * (j : Int) ∧ z = k + 4 * (j : Int) ∧ Below w.heap.size w wr) (fun i _ _ => n - (intOf i).toNat)
  case atStart => exact ⟨0, k, Nat.zero_le _, rfl, rfl, hk0, by omega, by simp, Below.refl _ _⟩
  case round =>
    obtain ⟨j, z, hj, rfl, rfl, hz0, hz1, hz2, hbel⟩ := hrel
    have HZ := hid hz2
    clear hz2
    by_cases hjl : j < n
    · obtain ⟨b, o, rfl, hlt, hc⟩ := (HA.out.below hbel) (by intro e; have := congrArg List.length e; rw [List.length_map, mksVisit_length] at this; simp at this; omega)
      have hat : ((mksVisit k n).map DVisit.cells)[j]? = some (mkVisit z).cells := by rw [List.getElem?_map, mksVisit_at hjl, HZ.out]; rfl
      have HC := hid (hc j _ hat)
      have hc0 : wr.cell? ⟨b, o + j * 4, none⟩ = some (.int .i64 (z)) := HC.out 0 _ rfl
      have hc1 : wr.cell? ⟨b, o + j * 4 + 1, none⟩ = some (.string (markT (z + 1).toNat)) := HC.out 1 _ rfl
      have hc2 : wr.cell? ⟨b, o + j * 4 + 2, none⟩ = some (.int .i64 (z + 1 + 1)) := HC.out 2 _ rfl
      have hc3 : wr.cell? ⟨b, o + j * 4 + 3, none⟩ = some (.int .i64 (z + 1 + 1 + 1)) := HC.out 3 _ rfl
      have q0 : (0 : Int) ≤ (j : Int) := by omega
      have q1 : (j : Int) < n := by omega
      have B0 := hid hbel
      clear hc hbel hat
      go_wp2_with fail
      go_region_held3 (fun w' => (True ∧ Below wr.heap.size wr w') ∧ w'.cell? ⟨b, o + j * 4 + 1, none⟩ = some (.string (markT (z + 1).toNat)) ∧ w'.cell? ⟨b, o + j * 4 + 2, none⟩ = some (.int .i64 (z + 1 + 1)) ∧ w'.cell? ⟨b, o + j * 4 + 3, none⟩ = some (.int .i64 (z + 1 + 1 + 1)))
        (first | exact ⟨⟨trivial, (Below.refl _ _).drew⟩, hc1, hc2, hc3⟩ | exact keepM3 hlt hlt hlt ‹_ ∧ _› ‹Below _ _ _›)
        ((go_at_call 71; refine (markText_i _ _ (by omega) (by omega)).mono ?_; rintro e wz1 ⟨rfl, hb6⟩))
      have hh1 := ‹(_ ∧ Below _ _ wz1) ∧ _›
      obtain ⟨⟨_, hB1⟩, gc1, gc2, gc3⟩ := hh1
      have B1 := hid (below_up B0.out (by have := B0.out.size; omega) hB1)
      clear hc0 hc1 hc2 hc3
      have hc2 := gc2
      have hc3 := gc3
      have hlt1 := Nat.lt_of_lt_of_le hlt hB1.size
      clear hB1 gc1 gc2 gc3
      go_wp2_with fail
      go_roundw
      case rel => exact ⟨j + 1, z + 1 + 1 + 1 + 1, by omega, by go_num, by go_num, by omega, by omega, by have := HZ.out; omega, B1.out⟩
      case measure => simp [intOf]; omega
    · have hj2 : j = n := by omega
      subst hj2
      have hfin := HZ.out
      subst hfin
      go_wp2_with fail
      go_ret
      exact ⟨rfl, hbel⟩

end Go.Proofs.Ytjeklbhdngkngaa
