/- The laws' marks laid into a slice of Paper: what it then holds; that it is held. -/
import Derived.Test.YtnekigpeknenjaaMarks
import Derived.Test.YtnekigpeknenjaaRowsKit
import Derived.Test.YtnekigpeknenjaaTPaper
import Derived.Test.YtnekigpeknenjaaKeepM
namespace Go.Proofs.Ytnekigpeknenjaa
open Go.RowKit
set_option linter.unusedVariables false

def mkPaper (z : Int) : DPaper := ⟨markT (z).toNat, markT (z + 1).toNat, z + 1 + 1, z + 1 + 1 + 1, z + 1 + 1 + 1 + 1⟩
def mksPaper (k : Int) (n : Nat) : List DPaper := (List.range n).map fun (i : Nat) => mkPaper (k + 5 * (i : Int))
theorem mksPaper_length (k : Int) (n : Nat) : (mksPaper k n).length = n := by simp [mksPaper]
theorem mksPaper_succ (k : Int) (n : Nat) : mksPaper k (n + 1) = mksPaper k n ++ [mkPaper (k + 5 * (n : Int))] := by
  unfold mksPaper
  rw [List.range_succ, List.map_append]
  rfl
theorem mksPaper_at {k : Int} {n i : Nat} (h : i < n) : (mksPaper k n)[i]? = some (mkPaper (k + 5 * (i : Int))) := by
  unfold mksPaper
  rw [List.getElem?_map, List.getElem?_range h]
  rfl
theorem mksPaper_set {k : Int} {xs : List DPaper} {j : Nat} (h : j < xs.length) : (mksPaper k j ++ xs.drop j).set j (mkPaper (k + 5 * (j : Int))) = mksPaper k (j + 1) ++ xs.drop (j + 1) := by
  rw [List.set_append_right _ _ (by rw [mksPaper_length]; omega), mksPaper_length, Nat.sub_self, List.drop_eq_getElem_cons h, List.set_cons_zero, mksPaper_succ, List.append_assoc]
  rfl
def MarkPaper (w : World) (B h : Nat) (k : Int) (xs : List DPaper) (A : Option Addr) (c : Nat) (i m : Value) (wr : World) : Prop :=
  ∃ (j : Nat) (z : Int), j ≤ xs.length ∧ i = .int .i64 j ∧ m = .int .i64 z ∧ 0 < z ∧ z ≤ 1048576000000 + 5 * (j : Int) ∧ z = k + 5 * (j : Int) ∧ wr.ownsRow B 99 5 (.slice A xs.length c) xs.length ((mksPaper k j ++ xs.drop j).map DPaper.cells).flatten ∧ Chg B h w wr

set_option maxHeartbeats 1600000 in
set_option maxRecDepth 100000 in
theorem markPaperX_ok (A : Option Addr) (c B h : Nat) (xs : List DPaper) (k : Int) (w : World) (hown : w.ownsRow B 99 5 (.slice A xs.length c) xs.length (xs.map DPaper.cells).flatten) (hlt : ∀ g, (Value.slice A xs.length c).ownBlock = some g → g < h) (hk0 : 0 < k) (hk1 : k ≤ 1048576000000) (hn : xs.length ≤ 1099511627776) :
    Calls Try.prog 76 #[.slice A xs.length c, .int .i64 k] w fun e w' => e = .returned (.int .i64 (k + 5 * (xs.length : Int))) ∧ w'.ownsRow B 99 5 (.slice A xs.length c) xs.length ((mksPaper k xs.length).map DPaper.cells).flatten ∧ Chg B h w w' := by
  have HL := hid hlt
  have HO0 := hid hown
  clear hlt hown
  go_enter Try.func76, Try.ntmps76
  go_wp2_with fail
  go_loopw [5, 1] (fun i m wr => MarkPaper w B h k xs A c i m wr) (fun i _ _ => xs.length - (intOf i).toNat)
  case atStart => exact ⟨0, k, Nat.zero_le _, rfl, rfl, hk0, by omega, by simp, by simpa [mksPaper] using HO0.out, Chg.refl _ _ _⟩
  case round =>
    obtain ⟨j, z, hj, rfl, rfl, hz0, hz1, hz2, hown, hch⟩ := hrel
    have HZ := hid hz2
    clear hz2
    by_cases hjl : j < xs.length
    · obtain ⟨g, cap, hv, hBg, _, _⟩ := own_form hown (by omega)
      obtain ⟨rfl, _, rfl⟩ : A = some ⟨g, 0, none⟩ ∧ xs.length = xs.length ∧ c = cap := by injection hv with a1 a2 a3; exact ⟨a1, a2, a3⟩
      have hgh := HL.out g rfl
      have HM := hid (mksPaper_set (k := k) hjl)
      have O0 := hid hown
      have C0 := hid hch
      clear hown hv hch HL HO0
      go_wp2_with fail
      refine (markText_i _ _ (by omega) (by omega)).mono ?_
      rintro e w1 ⟨rfl, hb⟩
      have P0 := hid (own_below O0.out hb)
      have Q0 := hid (C0.out.then_below hb)
      clear hb
      obtain ⟨u0, hold0⟩ := own_cell P0.out (q := j * 5) (by omega)
      have hfr0 := P0.out.frozenAt (j * 5)
      have O1 := hid (own_setCells [.string (markT (z).toNat)] (p := j * 5) P0.out)
      have C1 := hid (Chg.setCells hBg hgh [.string (markT (z).toNat)] (p := j * 5) Q0.out)
      go_wp2_with fail
      refine (markText_i _ _ (by omega) (by omega)).mono ?_
      rintro e w2 ⟨rfl, hb⟩
      have P1 := hid (own_below O1.out hb)
      have Q1 := hid (C1.out.then_below hb)
      clear hb
      obtain ⟨u1, hold1⟩ := own_cell P1.out (q := j * 5 + 1) (by omega)
      have hfr1 := P1.out.frozenAt (j * 5 + 1)
      obtain ⟨u2, hold2⟩ := own_cell P1.out (q := j * 5 + 2) (by omega)
      have hfr2 := P1.out.frozenAt (j * 5 + 2)
      obtain ⟨u3, hold3⟩ := own_cell P1.out (q := j * 5 + 3) (by omega)
      have hfr3 := P1.out.frozenAt (j * 5 + 3)
      obtain ⟨u4, hold4⟩ := own_cell P1.out (q := j * 5 + 4) (by omega)
      have hfr4 := P1.out.frozenAt (j * 5 + 4)
      have O2 := hid (own_setCells [.string (markT (z + 1).toNat), .int .i64 (z + 1 + 1), .int .i64 (z + 1 + 1 + 1), .int .i64 (z + 1 + 1 + 1 + 1)] (p := j * 5 + 1) P1.out)
      have C2 := hid (Chg.setCells hBg hgh [.string (markT (z + 1).toNat), .int .i64 (z + 1 + 1), .int .i64 (z + 1 + 1 + 1), .int .i64 (z + 1 + 1 + 1 + 1)] (p := j * 5 + 1) Q1.out)
      go_wp2_with fail
      go_roundw
      case rel =>
        refine ⟨j + 1, z + 1 + 1 + 1 + 1 + 1, by omega, by go_num, by go_num, by omega, by omega, by have := HZ.out; omega, ?_, C2.out⟩
        have e := O2.out
        have e2 : setSeg ((mksPaper k j ++ xs.drop j).map DPaper.cells).flatten (j * 5) (mkPaper z).cells = ((mksPaper k (j + 1) ++ xs.drop (j + 1)).map DPaper.cells).flatten := by
          rw [setSeg_flatten (cellsPaper_len _) (by simp [mksPaper_length]; omega) rfl, ← List.map_set (f := DPaper.cells), HZ.out, HM.out]
        rw [← e2]
        exact e
      case measure => simp [intOf]; omega
    · have hj2 : j = xs.length := by omega
      subst hj2
      have HO := hid hown
      clear hown
      have hfin := HZ.out
      subst hfin
      go_wp2_with fail
      go_ret
      exact ⟨rfl, by have := HO.out; simpa using this, hch⟩

set_option maxHeartbeats 1600000 in
set_option maxRecDepth 100000 in
theorem heldPaperS_ok (A : Option Addr) (c n : Nat) (k : Int) (w : World) (hA : RowsAt w 5 A ((mksPaper k n).map DPaper.cells)) (hk0 : 0 < k) (hk1 : k ≤ 1048576000000) (hn : n ≤ 1099511627776) :
    Calls Try.prog 77 #[.slice A n c, .int .i64 k] w fun e w' => e = .returned (.int .i64 (k + 5 * (n : Int))) ∧ Below w.heap.size w w' := by
  have HA := hid hA
  clear hA
  go_enter Try.func77, Try.ntmps77
  go_wp2_with fail
  go_loopw [5, 1] (fun i m wr => ∃ (j : Nat) (z : Int), j ≤ n ∧ i = .int .i64 j ∧ m = .int .i64 z ∧ 0 < z ∧ z ≤ 1048576000000 + 5 * (j : Int) ∧ z = k + 5 * (j : Int) ∧ Below w.heap.size w wr) (fun i _ _ => n - (intOf i).toNat)
  case atStart => exact ⟨0, k, Nat.zero_le _, rfl, rfl, hk0, by omega, by simp, Below.refl _ _⟩
  case round =>
    obtain ⟨j, z, hj, rfl, rfl, hz0, hz1, hz2, hbel⟩ := hrel
    have HZ := hid hz2
    clear hz2
    by_cases hjl : j < n
    · obtain ⟨b, o, rfl, hlt, hc⟩ := (HA.out.below hbel) (by intro e; have := congrArg List.length e; rw [List.length_map, mksPaper_length] at this; simp at this; omega)
      have hat : ((mksPaper k n).map DPaper.cells)[j]? = some (mkPaper z).cells := by rw [List.getElem?_map, mksPaper_at hjl, HZ.out]; rfl
      have HC := hid (hc j _ hat)
      have hc0 : wr.cell? ⟨b, o + j * 5, none⟩ = some (.string (markT (z).toNat)) := HC.out 0 _ rfl
      have hc1 : wr.cell? ⟨b, o + j * 5 + 1, none⟩ = some (.string (markT (z + 1).toNat)) := HC.out 1 _ rfl
      have hc2 : wr.cell? ⟨b, o + j * 5 + 2, none⟩ = some (.int .i64 (z + 1 + 1)) := HC.out 2 _ rfl
      have hc3 : wr.cell? ⟨b, o + j * 5 + 3, none⟩ = some (.int .i64 (z + 1 + 1 + 1)) := HC.out 3 _ rfl
      have hc4 : wr.cell? ⟨b, o + j * 5 + 4, none⟩ = some (.int .i64 (z + 1 + 1 + 1 + 1)) := HC.out 4 _ rfl
      have q0 : (0 : Int) ≤ (j : Int) := by omega
      have q1 : (j : Int) < n := by omega
      have B0 := hid hbel
      clear hc hbel hat
      go_wp2_with fail
      go_region_held3 (fun w' => (True ∧ Below wr.heap.size wr w') ∧ w'.cell? ⟨b, o + j * 5, none⟩ = some (.string (markT (z).toNat)) ∧ w'.cell? ⟨b, o + j * 5 + 1, none⟩ = some (.string (markT (z + 1).toNat)) ∧ w'.cell? ⟨b, o + j * 5 + 2, none⟩ = some (.int .i64 (z + 1 + 1)) ∧ w'.cell? ⟨b, o + j * 5 + 3, none⟩ = some (.int .i64 (z + 1 + 1 + 1)) ∧ w'.cell? ⟨b, o + j * 5 + 4, none⟩ = some (.int .i64 (z + 1 + 1 + 1 + 1)))
        (first | exact ⟨⟨trivial, (Below.refl _ _).drew⟩, hc0, hc1, hc2, hc3, hc4⟩ | exact keepM5 hlt hlt hlt hlt hlt ‹_ ∧ _› ‹Below _ _ _›)
        ((go_at_call 91; refine (markText_i _ _ (by omega) (by omega)).mono ?_; rintro e wz0 ⟨rfl, hb6⟩))
      have hh0 := ‹(_ ∧ Below _ _ wz0) ∧ _›
      obtain ⟨⟨_, hB0⟩, gc0, gc1, gc2, gc3, gc4⟩ := hh0
      have B1 := hid (below_up B0.out (by have := B0.out.size; omega) hB0)
      clear hc0 hc1 hc2 hc3 hc4
      have hc1 := gc1
      have hc2 := gc2
      have hc3 := gc3
      have hc4 := gc4
      have hlt1 := Nat.lt_of_lt_of_le hlt hB0.size
      clear hB0 gc0 gc1 gc2 gc3 gc4
      go_wp2_with fail
      go_region_held3 (fun w' => (True ∧ Below wz0.heap.size wz0 w') ∧ w'.cell? ⟨b, o + j * 5 + 1, none⟩ = some (.string (markT (z + 1).toNat)) ∧ w'.cell? ⟨b, o + j * 5 + 2, none⟩ = some (.int .i64 (z + 1 + 1)) ∧ w'.cell? ⟨b, o + j * 5 + 3, none⟩ = some (.int .i64 (z + 1 + 1 + 1)) ∧ w'.cell? ⟨b, o + j * 5 + 4, none⟩ = some (.int .i64 (z + 1 + 1 + 1 + 1)))
        (first | exact ⟨⟨trivial, (Below.refl _ _).drew⟩, hc1, hc2, hc3, hc4⟩ | exact keepM4 hlt1 hlt1 hlt1 hlt1 ‹_ ∧ _› ‹Below _ _ _›)
        ((go_at_call 91; refine (markText_i _ _ (by omega) (by omega)).mono ?_; rintro e wz1 ⟨rfl, hb6⟩))
      have hh1 := ‹(_ ∧ Below _ _ wz1) ∧ _›
      obtain ⟨⟨_, hB1⟩, gc1, gc2, gc3, gc4⟩ := hh1
      have B2 := hid (below_up B1.out (by have := B1.out.size; omega) hB1)
      clear hc1 hc2 hc3 hc4
      have hc2 := gc2
      have hc3 := gc3
      have hc4 := gc4
      have hlt2 := Nat.lt_of_lt_of_le hlt1 hB1.size
      clear hB1 gc1 gc2 gc3 gc4
      go_wp2_with fail
      go_roundw
      case rel => exact ⟨j + 1, z + 1 + 1 + 1 + 1 + 1, by omega, by go_num, by go_num, by omega, by omega, by have := HZ.out; omega, B2.out⟩
      case measure => simp [intOf]; omega
    · have hj2 : j = n := by omega
      subst hj2
      have hfin := HZ.out
      subst hfin
      go_wp2_with fail
      go_ret
      exact ⟨rfl, hbel⟩

end Go.Proofs.Ytnekigpeknenjaa
