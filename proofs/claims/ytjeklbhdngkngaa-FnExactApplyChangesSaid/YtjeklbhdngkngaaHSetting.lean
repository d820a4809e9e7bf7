/- The laws' marks laid into a slice of Setting: what it then holds; that it is held. -/
import Derived.Test.YtjeklbhdngkngaaMarks
import Derived.Test.YtjeklbhdngkngaaRowsKit
import Derived.Test.YtjeklbhdngkngaaTSetting
import Derived.Test.YtjeklbhdngkngaaKeepM
namespace Go.Proofs.Ytjeklbhdngkngaa
open Go.RowKit
set_option linter.unusedVariables false

def mkSetting (z : Int) : DSetting := ⟨markT (z).toNat, z + 1⟩
def mksSetting (k : Int) (n : Nat) : List DSetting := (List.range n).map fun (i : Nat) => mkSetting (k + 2 * (i : Int))
theorem mksSetting_length (k : Int) (n : Nat) : (mksSetting k n).length = n := by simp [mksSetting]
theorem mksSetting_succ (k : Int) (n : Nat) : mksSetting k (n + 1) = mksSetting k n ++ [mkSetting (k + 2 * (n : Int))] := by
  unfold mksSetting
  rw [List.range_succ, List.map_append]
  rfl
theorem mksSetting_at {k : Int} {n i : Nat} (h : i < n) : (mksSetting k n)[i]? = some (mkSetting (k + 2 * (i : Int))) := by
  unfold mksSetting
  rw [List.getElem?_map, List.getElem?_range h]
  rfl
theorem mksSetting_set {k : Int} {xs : List DSetting} {j : Nat} (h : j < xs.length) : (mksSetting k j ++ xs.drop j).set j (mkSetting (k + 2 * (j : Int))) = mksSetting k (j + 1) ++ xs.drop (j + 1) := by
  rw [List.set_append_right _ _ (by rw [mksSetting_length]; omega), mksSetting_length, Nat.sub_self, List.drop_eq_getElem_cons h, List.set_cons_zero, mksSetting_succ, List.append_assoc]
  rfl
def MarkSetting (w : World) (B h : Nat) (k : Int) (xs : List DSetting) (A : Option Addr) (c : Nat) (i m : Value) (wr : World) : Prop :=
  ∃ (j : Nat) (z : Int), j ≤ xs.length ∧ i = .int .i64 j ∧ m = .int .i64 z ∧ 0 < z ∧ z ≤ 1000000000000000 + 2 * (j : Int) ∧ z = k + 2 * (j : Int) ∧ wr.ownsRow B 95 2 (.slice A xs.length c) xs.length ((mksSetting k j ++ xs.drop j).map DSetting.cells).flatten ∧ Chg B h w wr

set_option maxHeartbeats 1600000 in
set_option maxRecDepth 100000 in
theorem markSettingX_ok (A : Option Addr) (c B h : Nat) (xs : List DSetting) (k : Int) (w : World) (hown : w.ownsRow B 95 2 (.slice A xs.length c) xs.length (xs.map DSetting.cells).flatten) (hlt : ∀ g, (Value.slice A xs.length c).ownBlock = some g → g < h) (hk0 : 0 < k) (hk1 : k ≤ 1000000000000000) (hn : xs.length ≤ 1099511627776) :
    Calls Try.prog 15 #[.slice A xs.length c, .int .i64 k] w fun e w' => e = .returned (.int .i64 (k + 2 * (xs.length : Int))) ∧ w'.ownsRow B 95 2 (.slice A xs.length c) xs.length ((mksSetting k xs.length).map DSetting.cells).flatten ∧ Chg B h w w' := by
  have HL := hid hlt
  have HO0 := hid hown
  clear hlt hown
  go_enter Try.func15, Try.ntmps15
  go_wp2_with fail
  go_loopw [5, 1] (fun i m wr => MarkSetting w B h k xs A c i m wr) (fun i _ _ => xs.length - (intOf i).toNat)
  case atStart => exact ⟨0, k, Nat.zero_le _, rfl, rfl, hk0, by omega, by simp, by simpa [mksSetting] using HO0.out, Chg.refl _ _ _⟩
  case round =>
    obtain ⟨j, z, hj, rfl, rfl, hz0, hz1, hz2, hown, hch⟩ := hrel
    have HZ := hid hz2
    clear hz2
    by_cases hjl : j < xs.length
    · obtain ⟨g, cap, hv, hBg, _, _⟩ := own_form hown (by omega)
      obtain ⟨rfl, _, rfl⟩ : A = some ⟨g, 0, none⟩ ∧ xs.length = xs.length ∧ c = cap := by injection hv with a1 a2 a3; exact ⟨a1, a2, a3⟩
      have hgh := HL.out g rfl
      have HM := hid (mksSetting_set (k := k) hjl)
      have O0 := hid hown
      have C0 := hid hch
      clear hown hv hch HL HO0
      go_wp2_with fail
      refine (markText_i _ _ (by omega) (by omega)).mono ?_
      rintro e w1 ⟨rfl, hb⟩
      have P0 := hid (own_below O0.out hb)
      have Q0 := hid (C0.out.then_below hb)
      clear hb
      obtain ⟨u0, hold0⟩ := own_cell P0.out (q := j * 2) (by omega)
      have hfr0 := P0.out.frozenAt (j * 2)
      obtain ⟨u1, hold1⟩ := own_cell P0.out (q := j * 2 + 1) (by omega)
      have hfr1 := P0.out.frozenAt (j * 2 + 1)
      have O1 := hid (own_setCells [.string (markT (z).toNat), .int .i64 (z + 1)] (p := j * 2) P0.out)
      have C1 := hid (Chg.setCells hBg hgh [.string (markT (z).toNat), .int .i64 (z + 1)] (p := j * 2) Q0.out)
      go_wp2_with fail
      go_roundw
      case rel =>
        refine ⟨j + 1, z + 1 + 1, by omega, by go_num, by go_num, by omega, by omega, by have := HZ.out; omega, ?_, C1.out⟩
        have e := O1.out
        have e2 : setSeg ((mksSetting k j ++ xs.drop j).map DSetting.cells).flatten (j * 2) (mkSetting z).cells = ((mksSetting k (j + 1) ++ xs.drop (j + 1)).map DSetting.cells).flatten := by
          rw [setSeg_flatten (cellsSetting_len _) (by simp [mksSetting_length]; omega) rfl, ← List.map_set (f := DSetting.cells), HZ.out, HM.out]
        rw [← e2]
        exact e
      case measure => simp [intOf]; omega
    · have hj2 : j = xs.length := by omega
      subst hj2
      have HO := hid hown
      clear hown
      have hfin := HZ.out
      subst hfin
      go_wp2_with fail
      go_ret
      exact ⟨rfl, by have := HO.out; simpa using this, hch⟩

set_option maxHeartbeats 1600000 in
set_option maxRecDepth 100000 in
theorem heldSettingS_ok (A : Option Addr) (c n : Nat) (k : Int) (w : World) (hA : RowsAt w 2 A ((mksSetting k n).map DSetting.cells)) (hk0 : 0 < k) (hk1 : k ≤ 1000000000000000) (hn : n ≤ 1099511627776) :
    Calls Try.prog 16 #[.slice A n c, .int .i64 k] w fun e w' => e = .returned (.int .i64 (k + 2 * (n : Int))) ∧ Below w.heap.size w w' := by
  have HA := hid hA
  clear hA
  go_enter Try.func16, Try.ntmps16
  go_wp2_with fail
  go_loopw [5, 1] (fun i m wr => ∃ (j : Nat) (z : Int), j ≤ n ∧ i = .int .i64 j ∧ m = .int .i64 z ∧ 0 < z ∧ z ≤ 1000000000000000 + 2 * (j : Int) ∧ z = k + 2 * (j : Int) ∧ Below w.heap.size w wr) (fun i _ _ => n - (intOf i).toNat)
  case atStart => exact ⟨0, k, Nat.zero_le _, rfl, rfl, hk0, by omega, by simp, Below.refl _ _⟩
  case round =>
    obtain ⟨j, z, hj, rfl, rfl, hz0, hz1, hz2, hbel⟩ := hrel
    have HZ := hid hz2
    clear hz2
    by_cases hjl : j < n
    · obtain ⟨b, o, rfl, hlt, hc⟩ := (HA.out.below hbel) (by intro e; have := congrArg List.length e; rw [List.length_map, mksSetting_length] at this; simp at this; omega)
      have hat : ((mksSetting k n).map DSetting.cells)[j]? = some (mkSetting z).cells := by rw [List.getElem?_map, mksSetting_at hjl, HZ.out]; rfl
      have HC := hid (hc j _ hat)
      have hc0 : wr.cell? ⟨b, o + j * 2, none⟩ = some (.string (markT (z).toNat)) := HC.out 0 _ rfl
      have hc1 : wr.cell? ⟨b, o + j * 2 + 1, none⟩ = some (.int .i64 (z + 1)) := HC.out 1 _ rfl
      have q0 : (0 : Int) ≤ (j : Int) := by omega
      have q1 : (j : Int) < n := by omega
      have B0 := hid hbel
      clear hc hbel hat
      go_wp2_with fail
      go_region_held3 (fun w' => (True ∧ Below wr.heap.size wr w') ∧ w'.cell? ⟨b, o + j * 2, none⟩ = some (.string (markT (z).toNat)) ∧ w'.cell? ⟨b, o + j * 2 + 1, none⟩ = some (.int .i64 (z + 1)))
        (first | exact ⟨⟨trivial, (Below.refl _ _).drew⟩, hc0, hc1⟩ | exact keepM2 hlt hlt ‹_ ∧ _› ‹Below _ _ _›)
        ((go_at_call 71; refine (markText_i _ _ (by omega) (by omega)).mono ?_; rintro e wz0 ⟨rfl, hb6⟩))
      have hh0 := ‹(_ ∧ Below _ _ wz0) ∧ _›
      obtain ⟨⟨_, hB0⟩, gc0, gc1⟩ := hh0
      have B1 := hid (below_up B0.out (by have := B0.out.size; omega) hB0)
      clear hc0 hc1
      have hc1 := gc1
      have hlt1 := Nat.lt_of_lt_of_le hlt hB0.size
      clear hB0 gc0 gc1
      go_wp2_with fail
      go_roundw
      case rel => exact ⟨j + 1, z + 1 + 1, by omega, by go_num, by go_num, by omega, by omega, by have := HZ.out; omega, B1.out⟩
      case measure => simp [intOf]; omega
    · have hj2 : j = n := by omega
      subst hj2
      have hfin := HZ.out
      subst hfin
      go_wp2_with fail
      go_ret
      exact ⟨rfl, hbel⟩

end Go.Proofs.Ytjeklbhdngkngaa
