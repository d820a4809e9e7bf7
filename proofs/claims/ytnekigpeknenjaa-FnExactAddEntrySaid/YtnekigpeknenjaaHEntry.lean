/- The laws' marks laid into a slice of Entry: what it then holds; that it is held. -/
import Derived.Test.YtnekigpeknenjaaMarks
import Derived.Test.YtnekigpeknenjaaRowsKit
import Derived.Test.YtnekigpeknenjaaTEntry
import Derived.Test.YtnekigpeknenjaaKeepM
namespace Go.Proofs.Ytnekigpeknenjaa
open Go.RowKit
set_option linter.unusedVariables false

def mkEntry (z : Int) : DEntry := ⟨z, markT (z + 1).toNat, markT (z + 1 + 1).toNat, z + 1 + 1 + 1⟩
def mksEntry (k : Int) (n : Nat) : List DEntry := (List.range n).map fun (i : Nat) => mkEntry (k + 4 * (i : Int))
theorem mksEntry_length (k : Int) (n : Nat) : (mksEntry k n).length = n := by simp [mksEntry]
theorem mksEntry_succ (k : Int) (n : Nat) : mksEntry k (n + 1) = mksEntry k n ++ [mkEntry (k + 4 * (n : Int))] := by
  unfold mksEntry
  rw [List.range_succ, List.map_append]
  rfl
theorem mksEntry_at {k : Int} {n i : Nat} (h : i < n) : (mksEntry k n)[i]? = some (mkEntry (k + 4 * (i : Int))) := by
  unfold mksEntry
  rw [List.getElem?_map, List.getElem?_range h]
  rfl
theorem mksEntry_set {k : Int} {xs : List DEntry} {j : Nat} (h : j < xs.length) : (mksEntry k j ++ xs.drop j).set j (mkEntry (k + 4 * (j : Int))) = mksEntry k (j + 1) ++ xs.drop (j + 1) := by
  rw [List.set_append_right _ _ (by rw [mksEntry_length]; omega), mksEntry_length, Nat.sub_self, List.drop_eq_getElem_cons h, List.set_cons_zero, mksEntry_succ, List.append_assoc]
  rfl
def MarkEntry (w : World) (B h : Nat) (k : Int) (xs : List DEntry) (A : Option Addr) (c : Nat) (i m : Value) (wr : World) : Prop :=
  ∃ (j : Nat) (z : Int), j ≤ xs.length ∧ i = .int .i64 j ∧ m = .int .i64 z ∧ 0 < z ∧ z ≤ 1048576000000 + 4 * (j : Int) ∧ z = k + 4 * (j : Int) ∧ wr.ownsRow B 85 4 (.slice A xs.length c) xs.length ((mksEntry k j ++ xs.drop j).map DEntry.cells).flatten ∧ Chg B h w wr

set_option maxHeartbeats 1600000 in
set_option maxRecDepth 100000 in
theorem markEntryX_ok (A : Option Addr) (c B h : Nat) (xs : List DEntry) (k : Int) (w : World) (hown : w.ownsRow B 85 4 (.slice A xs.length c) xs.length (xs.map DEntry.cells).flatten) (hlt : ∀ g, (Value.slice A xs.length c).ownBlock = some g → g < h) (hk0 : 0 < k) (hk1 : k ≤ 1048576000000) (hn : xs.length ≤ 1099511627776) :
    Calls Try.prog 67 #[.slice A xs.length c, .int .i64 k] w fun e w' => e = .returned (.int .i64 (k + 4 * (xs.length : Int))) ∧ w'.ownsRow B 85 4 (.slice A xs.length c) xs.length ((mksEntry k xs.length).map DEntry.cells).flatten ∧ Chg B h w w' := by
  have HL := hid hlt
  have HO0 := hid hown
  clear hlt hown
  go_enter Try.func67, Try.ntmps67
  go_wp2_with fail
  go_loopw [5, 1] (fun i m wr => MarkEntry w B h k xs A c i m wr) (fun i _ _ => xs.length - (intOf i).toNat)
  case atStart => exact ⟨0, k, Nat.zero_le _, rfl, rfl, hk0, by omega, by simp, by simpa [mksEntry] using HO0.out, Chg.refl _ _ _⟩
  case round =>
    obtain ⟨j, z, hj, rfl, rfl, hz0, hz1, hz2, hown, hch⟩ := hrel
    have HZ := hid hz2
    clear hz2
    by_cases hjl : j < xs.length
    · obtain ⟨g, cap, hv, hBg, _, _⟩ := own_form hown (by omega)
      obtain ⟨rfl, _, rfl⟩ : A = some ⟨g, 0, none⟩ ∧ xs.length = xs.length ∧ c = cap := by injection hv with a1 a2 a3; exact ⟨a1, a2, a3⟩
      have hgh := HL.out g rfl
      have HM := hid (mksEntry_set (k := k) hjl)
      have O0 := hid hown
      have C0 := hid hch
      clear hown hv hch HL HO0
      have P0 := O0
      have Q0 := C0
      obtain ⟨u0, hold0⟩ := own_cell P0.out (q := j * 4) (by omega)
      have hfr0 := P0.out.frozenAt (j * 4)
      have O1 := hid (own_setCells [.int .i64 (z)] (p := j * 4) P0.out)
      have C1 := hid (Chg.setCells hBg hgh [.int .i64 (z)] (p := j * 4) Q0.out)
      go_wp2_with fail
      refine (markText_i _ _ (by omega) (by omega)).mono ?_
      rintro e w2 ⟨rfl, hb⟩
      have P1 := hid (own_below O1.out hb)
      have Q1 := hid (C1.out.then_below hb)
      clear hb
      obtain ⟨u1, hold1⟩ := own_cell P1.out (q := j * 4 + 1) (by omega)
      have hfr1 := P1.out.frozenAt (j * 4 + 1)
      have O2 := hid (own_setCells [.string (markT (z + 1).toNat)] (p := j * 4 + 1) P1.out)
      have C2 := hid (Chg.setCells hBg hgh [.string (markT (z + 1).toNat)] (p := j * 4 + 1) Q1.out)
      go_wp2_with fail
      refine (markText_i _ _ (by omega) (by omega)).mono ?_
      rintro e w3 ⟨rfl, hb⟩
      have P2 := hid (own_below O2.out hb)
      have Q2 := hid (C2.out.then_below hb)
      clear hb
      obtain ⟨u2, hold2⟩ := own_cell P2.out (q := j * 4 + 2) (by omega)
      have hfr2 := P2.out.frozenAt (j * 4 + 2)
      obtain ⟨u3, hold3⟩ := own_cell P2.out (q := j * 4 + 3) (by omega)
      have hfr3 := P2.out.frozenAt (j * 4 + 3)
      have O3 := hid (own_setCells [.string (markT (z + 1 + 1).toNat), .int .i64 (z + 1 + 1 + 1)] (p := j * 4 + 2) P2.out)
      have C3 := hid (Chg.setCells hBg hgh [.string (markT (z + 1 + 1).toNat), .int .i64 (z + 1 + 1 + 1)] (p := j * 4 + 2) Q2.out)
      go_wp2_with fail
      go_roundw
      case rel =>
        refine ⟨j + 1, z + 1 + 1 + 1 + 1, by omega, by go_num, by go_num, by omega, by omega, by have := HZ.out; omega, ?_, C3.out⟩
        have e := O3.out
        have e2 : setSeg ((mksEntry k j ++ xs.drop j).map DEntry.cells).flatten (j * 4) (mkEntry z).cells = ((mksEntry k (j + 1) ++ xs.drop (j + 1)).map DEntry.cells).flatten := by
          rw [setSeg_flatten (cellsEntry_len _) (by simp [mksEntry_length]; omega) rfl, ← List.map_set (f := DEntry.cells), HZ.out, HM.out]
        rw [← e2]
        exact e
      case measure => simp [intOf]; omega
    · have hj2 : j = xs.length := by omega
      subst hj2
      have HO := hid hown
      clear hown
      have hfin := HZ.out
      subst hfin
      go_wp2_with fail
      go_ret
      exact ⟨rfl, by have := HO.out; simpa using this, hch⟩

set_option maxHeartbeats 1600000 in
set_option maxRecDepth 100000 in
theorem heldEntryS_ok (A : Option Addr) (c n : Nat) (k : Int) (w : World) (hA : RowsAt w 4 A ((mksEntry k n).map DEntry.cells)) (hk0 : 0 < k) (hk1 : k ≤ 1048576000000) (hn : n ≤ 1099511627776) :
    Calls Try.prog 68 #[.slice A n c, .int .i64 k] w fun e w' => e = .returned (.int .i64 (k + 4 * (n : Int))) ∧ Below w.heap.size w w' := by
  have HA := hid hA
  clear hA
  go_enter Try.func68, Try.ntmps68
  go_wp2_with fail
  go_loopw [5, 1] (fun i m wr => ∃ (j : Nat) (z : Int), j ≤ n ∧ i = .int .i64 j ∧ m = .int .i64 z ∧ 0 < z ∧ z ≤ 1048576000000 + 4 * (j : Int) ∧ z = k + 4 * (j : Int) ∧ Below w.heap.size w wr) (fun i _ _ => n - (intOf i).toNat)
  case atStart => exact ⟨0, k, Nat.zero_le _, rfl, rfl, hk0, by omega, by simp, Below.refl _ _⟩
  case round =>
    obtain ⟨j, z, hj, rfl, rfl, hz0, hz1, hz2, hbel⟩ := hrel
    have HZ := hid hz2
    clear hz2
    by_cases hjl : j < n
    · obtain ⟨b, o, rfl, hlt, hc⟩ := (HA.out.below hbel) (by intro e; have := congrArg List.length e; rw [List.length_map, mksEntry_length] at this; simp at this; omega)
      have hat : ((mksEntry k n).map DEntry.cells)[j]? = some (mkEntry z).cells := by rw [List.getElem?_map, mksEntry_at hjl, HZ.out]; rfl
      have HC := hid (hc j _ hat)
      have hc0 : wr.cell? ⟨b, o + j * 4, none⟩ = some (.int .i64 (z)) := HC.out 0 _ rfl
      have hc1 : wr.cell? ⟨b, o + j * 4 + 1, none⟩ = some (.string (markT (z + 1).toNat)) := HC.out 1 _ rfl
      have hc2 : wr.cell? ⟨b, o + j * 4 + 2, none⟩ = some (.string (markT (z + 1 + 1).toNat)) := HC.out 2 _ rfl
      have hc3 : wr.cell? ⟨b, o + j * 4 + 3, none⟩ = some (.int .i64 (z + 1 + 1 + 1)) := HC.out 3 _ rfl
      have q0 : (0 : Int) ≤ (j : Int) := by omega
      have q1 : (j : Int) < n := by omega
      have B0 := hid hbel
      clear hc hbel hat
      go_wp2_with fail
      go_region_held3 (fun w' => (True ∧ Below wr.heap.size wr w') ∧ w'.cell? ⟨b, o + j * 4 + 1, none⟩ = some (.string (markT (z + 1).toNat)) ∧ w'.cell? ⟨b, o + j * 4 + 2, none⟩ = some (.string (markT (z + 1 + 1).toNat)) ∧ w'.cell? ⟨b, o + j * 4 + 3, none⟩ = some (.int .i64 (z + 1 + 1 + 1)))
        (first | exact ⟨⟨trivial, (Below.refl _ _).drew⟩, hc1, hc2, hc3⟩ | exact keepM3 hlt hlt hlt ‹_ ∧ _› ‹Below _ _ _›)
        ((go_at_call 91; refine (markText_i _ _ (by omega) (by omega)).mono ?_; rintro e wz1 ⟨rfl, hb6⟩))
      have hh1 := ‹(_ ∧ Below _ _ wz1) ∧ _›
      obtain ⟨⟨_, hB1⟩, gc1, gc2, gc3⟩ := hh1
      have B1 := hid (below_up B0.out (by have := B0.out.size; omega) hB1)
      clear hc0 hc1 hc2 hc3
      have hc2 := gc2
      have hc3 := gc3
      have hlt1 := Nat.lt_of_lt_of_le hlt hB1.size
      clear hB1 gc1 gc2 gc3
      go_wp2_with fail
      go_region_held3 (fun w' => (True ∧ Below wz1.heap.size wz1 w') ∧ w'.cell? ⟨b, o + j * 4 + 2, none⟩ = some (.string (markT (z + 1 + 1).toNat)) ∧ w'.cell? ⟨b, o + j * 4 + 3, none⟩ = some (.int .i64 (z + 1 + 1 + 1)))
        (first | exact ⟨⟨trivial, (Below.refl _ _).drew⟩, hc2, hc3⟩ | exact keepM2 hlt1 hlt1 ‹_ ∧ _› ‹Below _ _ _›)
        ((go_at_call 91; refine (markText_i _ _ (by omega) (by omega)).mono ?_; rintro e wz2 ⟨rfl, hb6⟩))
      have hh2 := ‹(_ ∧ Below _ _ wz2) ∧ _›
      obtain ⟨⟨_, hB2⟩, gc2, gc3⟩ := hh2
      have B2 := hid (below_up B1.out (by have := B1.out.size; omega) hB2)
      clear hc2 hc3
      have hc3 := gc3
      have hlt2 := Nat.lt_of_lt_of_le hlt1 hB2.size
      clear hB2 gc2 gc3
      go_wp2_with fail
      go_roundw
      case rel => exact ⟨j + 1, z + 1 + 1 + 1 + 1, by omega, by go_num, by go_num, by omega, by omega, by have := HZ.out; omega, B2.out⟩
      case measure => simp [intOf]; omega
    · have hj2 : j = n := by omega
      subst hj2
      have hfin := HZ.out
      subst hfin
      go_wp2_with fail
      go_ret
      exact ⟨rfl, hbel⟩

end Go.Proofs.Ytnekigpeknenjaa
