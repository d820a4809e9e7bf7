/- The laws' helpers over Setting and slices of it: a copy, equality, size. -/
import Derived.Test.YtjeklbhdngkngaaBasic
import Derived.Test.YtjeklbhdngkngaaRowsKit
import Derived.Test.YtjeklbhdngkngaaInts
import Derived.Test.YtjeklbhdngkngaaKeepM
import Derived.Deep.RegionHeld3
namespace Go.Proofs.Ytjeklbhdngkngaa
open Go.RowKit
set_option linter.unusedVariables false

structure DSetting where
  fName : ByteArray
  fValue : Int
def DSetting.cells (x : DSetting) : List Value := [.string x.fName, .int .i64 x.fValue]
/-- its strings are no longer than a Go string -/
def DSetting.ok (x : DSetting) : Prop := x.fName.size ≤ 9223372036854775807
theorem infoSetting : (Try.prog.info? 95).map (fun i => (i.zero, i.size, i.bytes)) = some (some (.agg #[.string ⟨#[]⟩, .int .i64 0]), 2, 24) := by kernel_rfl

theorem toSetting_ok (x : DSetting) (w : World) :
    Calls Try.prog 64 #[.agg #[.string x.fName, .int .i64 x.fValue]] w fun e w' => e = .returned (.agg #[.string x.fName, .int .i64 x.fValue]) ∧ Below w.heap.size w w' := by
  go_enter Try.func64, Try.ntmps64
  go_wp2_with fail
  exact bodyPost_ret (v := .agg #[.string x.fName, .int .i64 x.fValue]) (by simp [results, Try.results64, go_sem]) rfl ⟨rfl, ((below_alloc _ _).alloc (by simp) _).alloc (by simp; omega) _⟩

theorem cellsSetting_len (xs : List DSetting) : ∀ c ∈ xs.map DSetting.cells, c.length = 2 := fun c hc => by
  obtain ⟨x, _, rfl⟩ := List.mem_map.1 hc
  rfl
theorem partSetting_len (xs : List DSetting) (k : Nat) : ∀ c ∈ (xs.map DSetting.cells).take k ++ List.replicate ((xs.map DSetting.cells).length - k) [Value.string ⟨#[]⟩, Value.int .i64 0], c.length = 2 := fun c hc => by
  rcases List.mem_append.1 hc with h | h
  · exact cellsSetting_len xs c (List.mem_of_mem_take h)
  · rw [List.eq_of_mem_replicate h]; rfl

def CopySetting (w : World) (xs : List DSetting) (g : Nat) (i : Value) (wr : World) : Prop :=
  ∃ (k : Nat), k ≤ xs.length ∧ i = .int .i64 k ∧ wr.ownsRow w.heap.size 95 2 (.slice (some ⟨g, 0, none⟩) xs.length xs.length) xs.length (((xs.map DSetting.cells).take k ++ List.replicate ((xs.map DSetting.cells).length - k) [Value.string ⟨#[]⟩, Value.int .i64 0]).flatten) ∧ Below w.heap.size w wr

set_option maxHeartbeats 1600000 in
set_option maxRecDepth 100000 in
theorem toSettingS_ok (A : Option Addr) (c : Nat) (xs : List DSetting) (w : World) (hA : RowsAt w 2 A (xs.map DSetting.cells)) (hn : xs.length ≤ 1048576) :
    Calls Try.prog 12 #[.slice A xs.length c] w fun e w' => ∃ g, e = .returned (.slice (some ⟨g, 0, none⟩) xs.length xs.length) ∧ w'.ownsRow w.heap.size 95 2 (.slice (some ⟨g, 0, none⟩) xs.length xs.length) xs.length (xs.map DSetting.cells).flatten ∧ Below w.heap.size w w' := by
  obtain ⟨i0, hi, hz0, hz1, hz2⟩ := info_parts infoSetting
  have HA := hid hA
  clear hA
  go_enter Try.func12, Try.ntmps12
  go_wp2_with (at_make; refine wpList_make_full _ rfl _ _ _ rfl w.heap.size 95 i0 (.agg #[.string ⟨#[]⟩, .int .i64 0]) 2 Try.underlying24 hi hz0 hz1 .i64 .i64 _ _ xs.length rfl rfl rfl rfl (by rw [hz2]; omega) (by unfold maxLen; omega) (Nat.le_refl _) ?_; intro w1 hown1 hg1)
  go_loopw [4] (fun i wr => CopySetting w xs w.heap.size i wr) (fun i _ => xs.length - (intOf i).toNat)
  case atStart =>
    refine ⟨0, Nat.zero_le _, rfl, ?_, (Below.refl _ _).grown hg1 (Nat.le_refl _) (fun k hk => by cases hk)⟩
    have e : (((xs.map DSetting.cells).take 0 ++ List.replicate ((xs.map DSetting.cells).length - 0) [Value.string ⟨#[]⟩, Value.int .i64 0]).flatten) = (madeCells (Value.agg #[.string ⟨#[]⟩, .int .i64 0]).cells (xs.length * 2)).toList := by
      have h := made_rows #[.string ⟨#[]⟩, .int .i64 0] xs.length 2 rfl (by omega)
      rw [List.take_zero, List.nil_append, Nat.sub_zero, List.length_map]
      exact h.symm
    rw [e]
    exact hown1
  case round =>
    obtain ⟨k, hk, rfl, hown, hbel⟩ := hrel
    by_cases hkl : k < xs.length
    · obtain ⟨b, o, rfl, hlt, hc⟩ := (HA.out.below hbel) (by intro e; rw [List.map_eq_nil_iff] at e; rw [e] at hkl; exact absurd hkl (by simp))
      have HC := hid hc
      have hc0 : wr.cell? ⟨b, o + k * 2, none⟩ = some (.string xs[k].fName) := HC.out k _ (by rw [List.getElem?_map, List.getElem?_eq_getElem hkl]; rfl) 0 _ rfl
      have hc1 : wr.cell? ⟨b, o + k * 2 + 1, none⟩ = some (.int .i64 xs[k].fValue) := HC.out k _ (by rw [List.getElem?_map, List.getElem?_eq_getElem hkl]; rfl) 1 _ rfl
      have HO := hid hown
      clear hc hown
      go_wp2_with fail
      refine (toSetting_ok _ _).mono ?_
      rintro e w1 ⟨rfl, hb⟩
      have O1 := hid (own_below HO.out hb)
      have B1 := hid (below_up hbel (by have := hbel.size; omega) hb)
      have hold0 : w1.cell? ⟨w.heap.size, k * 2, none⟩ = some (.string ⟨#[]⟩) := by
        rw [O1.out.cellAt (k * 2) (by omega)]
        exact (flatten_at (j := 0) (partSetting_len xs k) (copy_at (by simpa using hkl)) (by omega)).trans rfl
      have hfr0 := O1.out.frozenAt (k * 2)
      have hold1 : w1.cell? ⟨w.heap.size, k * 2 + 1, none⟩ = some (.int .i64 0) := by
        rw [O1.out.cellAt (k * 2 + 1) (by omega)]
        exact (flatten_at (j := 1) (partSetting_len xs k) (copy_at (by simpa using hkl)) (by omega)).trans rfl
      have hfr1 := O1.out.frozenAt (k * 2 + 1)
      clear hb HO hc0 hc1
      go_wp2_with fail
      go_roundw
      case rel =>
        refine ⟨k + 1, by omega, by go_num, ?_, below_setCells (Nat.le_refl _) xs[k].cells B1.out⟩
        have e := own_setCells xs[k].cells (p := k * 2) O1.out
        rw [setSeg_flatten (partSetting_len xs k) (by simp; omega) rfl] at e
        have e2 := copyRows_set (css := xs.map DSetting.cells) (z := [Value.string ⟨#[]⟩, Value.int .i64 0]) (k := k) (by simpa using hkl)
        rw [List.getElem_map] at e2
        rw [e2] at e
        exact e
      case measure => simp [intOf]; omega
    · have hk2 : k = xs.length := by omega
      subst hk2
      have e : (xs.map DSetting.cells).take xs.length ++ List.replicate ((xs.map DSetting.cells).length - xs.length) [Value.string ⟨#[]⟩, Value.int .i64 0] = xs.map DSetting.cells := by rw [List.take_of_length_le (by simp)]; simp
      rw [e] at hown
      have HO := hid hown
      clear hown e
      go_wp2_with fail
      go_ret
      exact ⟨_, rfl, HO.out, hbel⟩


theorem eqSetting_same (x : DSetting) (w : World) :
    Calls Try.prog 70 #[.agg #[.string x.fName, .int .i64 x.fValue], .agg #[.string x.fName, .int .i64 x.fValue]] w fun e w' => e = .returned (.bool true) ∧ Below w.heap.size w w' := by
  go_enter Try.func70, Try.ntmps70
  go_wp2_with fail
  go_ret
  exact ⟨rfl, (below_alloc _ _).alloc (by simp) _⟩


set_option maxHeartbeats 1600000 in
set_option maxRecDepth 100000 in
/-- two slices that read alike are alike -/
theorem eqSettingS_same (A A' : Option Addr) (c c' : Nat) (xs : List DSetting) (w : World) (hA : RowsAt w 2 A (xs.map DSetting.cells)) (hA' : RowsAt w 2 A' (xs.map DSetting.cells)) (hn : xs.length ≤ 1048576) :
    Calls Try.prog 14 #[.slice A xs.length c, .slice A' xs.length c'] w fun e w' => e = .returned (.bool true) ∧ Below w.heap.size w w' := by
  have HA := hid hA
  have HA' := hid hA'
  clear hA hA'
  go_enter Try.func14, Try.ntmps14
  go_wp2_with fail
  go_loopw [5] (fun i wr => ∃ k : Nat, k ≤ xs.length ∧ i = .int .i64 k ∧ Below w.heap.size w wr) (fun i _ => xs.length - (intOf i).toNat)
  case atStart => exact ⟨0, Nat.zero_le _, rfl, Below.refl _ _⟩
  case round =>
    obtain ⟨k, hk, rfl, hbel⟩ := hrel
    by_cases hkl : k < xs.length
    · have hne : xs.map DSetting.cells ≠ [] := by intro e; rw [List.map_eq_nil_iff] at e; rw [e] at hkl; exact absurd hkl (by simp)
      obtain ⟨b, o, rfl, hlt, hc⟩ := (HA.out.below hbel) hne
      obtain ⟨b', o', rfl, hlt', hc'⟩ := (HA'.out.below hbel) hne
      have HC := hid hc
      have HC' := hid hc'
      have hc0 : wr.cell? ⟨b, o + k * 2, none⟩ = some (.string xs[k].fName) := HC.out k _ (by rw [List.getElem?_map, List.getElem?_eq_getElem hkl]; rfl) 0 _ rfl
      have hc1 : wr.cell? ⟨b, o + k * 2 + 1, none⟩ = some (.int .i64 xs[k].fValue) := HC.out k _ (by rw [List.getElem?_map, List.getElem?_eq_getElem hkl]; rfl) 1 _ rfl
      have gc0 : wr.cell? ⟨b', o' + k * 2, none⟩ = some (.string xs[k].fName) := HC'.out k _ (by rw [List.getElem?_map, List.getElem?_eq_getElem hkl]; rfl) 0 _ rfl
      have gc1 : wr.cell? ⟨b', o' + k * 2 + 1, none⟩ = some (.int .i64 xs[k].fValue) := HC'.out k _ (by rw [List.getElem?_map, List.getElem?_eq_getElem hkl]; rfl) 1 _ rfl
      have q0 : (0 : Int) ≤ (k : Int) := by omega
      have q1 : (k : Int) < xs.length := by omega
      have BW := hid hbel
      clear hc hc' hne hbel
      go_wp2_with fail
      go_region_held3 (fun w' => (True ∧ Below wr.heap.size wr w') ∧ w'.cell? ⟨b, o + k * 2, none⟩ = some (.string xs[k].fName) ∧ w'.cell? ⟨b, o + k * 2 + 1, none⟩ = some (.int .i64 xs[k].fValue) ∧ w'.cell? ⟨b', o' + k * 2, none⟩ = some (.string xs[k].fName) ∧ w'.cell? ⟨b', o' + k * 2 + 1, none⟩ = some (.int .i64 xs[k].fValue))
        (first | exact ⟨⟨trivial, (Below.refl _ _).drew⟩, hc0, hc1, gc0, gc1⟩ | exact keepM4 hlt hlt hlt' hlt' ‹_ ∧ _› ‹Below _ _ _›)
        ((go_at_call 70; refine (eqSetting_same xs[k] _).mono ?_; rintro e w6 ⟨rfl, hb6⟩))
      obtain ⟨⟨_, hB⟩, _⟩ := ‹(_ ∧ Below _ _ _) ∧ _›
      have hbel2 := below_up BW.out (by have := BW.out.size; omega) hB
      go_wp2_with fail
      go_roundw
      case rel => exact ⟨k + 1, by omega, by go_num, hbel2⟩
      case measure => simp [intOf]; omega
    · go_wp2_with fail
      go_ret
      exact ⟨rfl, hbel⟩


theorem szSetting_ok (x : DSetting) (l : Int) (w : World) (hx : x.ok) (h0 : 0 ≤ l) (h1 : l ≤ 1048576) :
    Calls Try.prog 61 #[.agg #[.string x.fName, .int .i64 x.fValue], .int .i64 l] w fun e w' => (∃ z : Int, e = .returned (.int .i64 z) ∧ -1 ≤ z ∧ z ≤ l) ∧ Below w.heap.size w w' := by
  unfold DSetting.ok at hx
  go_enter Try.func61, Try.ntmps61
  go_wp2_with fail
  all_goals (go_ret; exact ⟨⟨_, rfl, by omega, by omega⟩, below_alloc _ _⟩)


set_option maxHeartbeats 1600000 in
set_option maxRecDepth 100000 in
theorem szSettingS_ok (A : Option Addr) (c : Nat) (xs : List DSetting) (l : Int) (w : World) (hA : RowsAt w 2 A (xs.map DSetting.cells)) (hok : ∀ x ∈ xs, x.ok) (hn : xs.length ≤ 9223372036854775807) (h0 : 0 ≤ l) (h1 : l ≤ 1048576) :
    Calls Try.prog 10 #[.slice A xs.length c, .int .i64 l] w fun e w' => (∃ z : Int, e = .returned (.int .i64 z) ∧ -1 ≤ z ∧ z ≤ l ∧ (0 ≤ z → (xs.length : Int) ≤ l)) ∧ Below w.heap.size w w' := by
  have HA := hid hA
  have HK := hid hok
  clear hA hok
  go_enter Try.func10, Try.ntmps10
  go_wp2_with fail
  · go_ret
    exact ⟨⟨_, rfl, by omega, by omega, fun h => absurd h (by omega)⟩, Below.refl _ _⟩
  go_loopw [1, 5] (fun l' i wr => ∃ (k : Nat) (z : Int), k ≤ xs.length ∧ i = .int .i64 k ∧ l' = .int .i64 z ∧ 0 ≤ z ∧ z ≤ l ∧ Below w.heap.size w wr) (fun _ i _ => xs.length - (intOf i).toNat)
  case atStart => exact ⟨0, _, Nat.zero_le _, rfl, rfl, by omega, by omega, Below.refl _ _⟩
  case round =>
    obtain ⟨k, z, hk, rfl, rfl, hz0, hz1, hbel⟩ := hrel
    by_cases hkl : k < xs.length
    · have hne : xs.map DSetting.cells ≠ [] := by intro e; rw [List.map_eq_nil_iff] at e; rw [e] at hkl; exact absurd hkl (by simp)
      obtain ⟨b, o, rfl, hlt, hc⟩ := (HA.out.below hbel) hne
      have HC := hid hc
      have hc0 : wr.cell? ⟨b, o + k * 2, none⟩ = some (.string xs[k].fName) := HC.out k _ (by rw [List.getElem?_map, List.getElem?_eq_getElem hkl]; rfl) 0 _ rfl
      have hc1 : wr.cell? ⟨b, o + k * 2 + 1, none⟩ = some (.int .i64 xs[k].fValue) := HC.out k _ (by rw [List.getElem?_map, List.getElem?_eq_getElem hkl]; rfl) 1 _ rfl
      have hx := hid (HK.out xs[k] (List.getElem_mem hkl))
      have q0 : (0 : Int) ≤ (k : Int) := by omega
      have q1 : (k : Int) < xs.length := by omega
      have BW := hid hbel
      clear hc hne hbel
      go_wp2_with fail
      refine (szSetting_ok xs[k] z _ hx.out (by omega) (by omega)).mono ?_
      rintro e w1 ⟨⟨z1, rfl, hz2, hz3⟩, hb⟩
      have B1 := hid (below_up BW.out (by have := BW.out.size; omega) hb)
      clear hb
      go_wp2_with fail
      · go_ret
        exact ⟨⟨_, rfl, by omega, by omega, fun h => absurd h (by omega)⟩, B1.out⟩
      go_roundw
      case rel => exact ⟨k + 1, z1, by omega, by go_num, rfl, by omega, by omega, B1.out⟩
      case measure => simp [intOf]; omega
    · go_wp2_with fail
      go_ret
      exact ⟨⟨_, rfl, by omega, by omega, fun _ => by omega⟩, hbel⟩

end Go.Proofs.Ytjeklbhdngkngaa
