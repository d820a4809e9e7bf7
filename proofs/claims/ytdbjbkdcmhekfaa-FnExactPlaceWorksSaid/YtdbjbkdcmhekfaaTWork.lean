/- The laws' helpers over Work and slices of it: a copy, equality, size. -/
import Derived.Test.YtdbjbkdcmhekfaaBasic
import Derived.Test.YtdbjbkdcmhekfaaRowsKit
import Derived.Test.YtdbjbkdcmhekfaaInts
import Derived.Test.YtdbjbkdcmhekfaaKeepM
import Derived.Deep.RegionHeld3
namespace Go.Proofs.Ytdbjbkdcmhekfaa
open Go.RowKit
set_option linter.unusedVariables false

structure DWork where
  fId : ByteArray
  fDays : Int
  fFirst : Int
  fLast : Int
def DWork.cells (x : DWork) : List Value := [.string x.fId, .int .i64 x.fDays, .int .i64 x.fFirst, .int .i64 x.fLast]
/-- its strings are no longer than a Go string -/
def DWork.ok (x : DWork) : Prop := x.fId.size ≤ 9223372036854775807
theorem infoWork : (Try.prog.info? 132).map (fun i => (i.zero, i.size, i.bytes)) = some (some (.agg #[.string ⟨#[]⟩, .int .i64 0, .int .i64 0, .int .i64 0]), 4, 40) := by kernel_rfl

theorem toWork_ok (x : DWork) (w : World) :
    Calls Try.prog 90 #[.agg #[.string x.fId, .int .i64 x.fDays, .int .i64 x.fFirst, .int .i64 x.fLast]] w fun e w' => e = .returned (.agg #[.string x.fId, .int .i64 x.fDays, .int .i64 x.fFirst, .int .i64 x.fLast]) ∧ Below w.heap.size w w' := by
  go_enter Try.func90, Try.ntmps90
  go_wp2_with fail
  exact bodyPost_ret (v := .agg #[.string x.fId, .int .i64 x.fDays, .int .i64 x.fFirst, .int .i64 x.fLast]) (by simp [results, Try.results90, go_sem]) rfl ⟨rfl, ((below_alloc _ _).alloc (by simp) _).alloc (by simp; omega) _⟩

theorem cellsWork_len (xs : List DWork) : ∀ c ∈ xs.map DWork.cells, c.length = 4 := fun c hc => by
  obtain ⟨x, _, rfl⟩ := List.mem_map.1 hc
  rfl
theorem partWork_len (xs : List DWork) (k : Nat) : ∀ c ∈ (xs.map DWork.cells).take k ++ List.replicate ((xs.map DWork.cells).length - k) [Value.string ⟨#[]⟩, Value.int .i64 0, Value.int .i64 0, Value.int .i64 0], c.length = 4 := fun c hc => by
  rcases List.mem_append.1 hc with h | h
  · exact cellsWork_len xs c (List.mem_of_mem_take h)
  · rw [List.eq_of_mem_replicate h]; rfl

def CopyWork (w : World) (xs : List DWork) (g : Nat) (i : Value) (wr : World) : Prop :=
  ∃ (k : Nat), k ≤ xs.length ∧ i = .int .i64 k ∧ wr.ownsRow w.heap.size 132 4 (.slice (some ⟨g, 0, none⟩) xs.length xs.length) xs.length (((xs.map DWork.cells).take k ++ List.replicate ((xs.map DWork.cells).length - k) [Value.string ⟨#[]⟩, Value.int .i64 0, Value.int .i64 0, Value.int .i64 0]).flatten) ∧ Below w.heap.size w wr

set_option maxHeartbeats 1600000 in
set_option maxRecDepth 100000 in
theorem toWorkS_ok (A : Option Addr) (c : Nat) (xs : List DWork) (w : World) (hA : RowsAt w 4 A (xs.map DWork.cells)) (hn : xs.length ≤ 1048576) :
    Calls Try.prog 26 #[.slice A xs.length c] w fun e w' => ∃ g, e = .returned (.slice (some ⟨g, 0, none⟩) xs.length xs.length) ∧ w'.ownsRow w.heap.size 132 4 (.slice (some ⟨g, 0, none⟩) xs.length xs.length) xs.length (xs.map DWork.cells).flatten ∧ Below w.heap.size w w' := by
  obtain ⟨i0, hi, hz0, hz1, hz2⟩ := info_parts infoWork
  have HA := hid hA
  clear hA
  go_enter Try.func26, Try.ntmps26
  go_wp2_with (at_make; refine wpList_make_full _ rfl _ _ _ rfl w.heap.size 132 i0 (.agg #[.string ⟨#[]⟩, .int .i64 0, .int .i64 0, .int .i64 0]) 4 Try.underlying47 hi hz0 hz1 .i64 .i64 _ _ xs.length rfl rfl rfl rfl (by rw [hz2]; omega) (by unfold maxLen; omega) (Nat.le_refl _) ?_; intro w1 hown1 hg1)
  go_loopw [4] (fun i wr => CopyWork w xs w.heap.size i wr) (fun i _ => xs.length - (intOf i).toNat)
  case atStart =>
    refine ⟨0, Nat.zero_le _, rfl, ?_, (Below.refl _ _).grown hg1 (Nat.le_refl _) (fun k hk => by cases hk)⟩
    have e : (((xs.map DWork.cells).take 0 ++ List.replicate ((xs.map DWork.cells).length - 0) [Value.string ⟨#[]⟩, Value.int .i64 0, Value.int .i64 0, Value.int .i64 0]).flatten) = (madeCells (Value.agg #[.string ⟨#[]⟩, .int .i64 0, .int .i64 0, .int .i64 0]).cells (xs.length * 4)).toList := by
      have h := made_rows #[.string ⟨#[]⟩, .int .i64 0, .int .i64 0, .int .i64 0] xs.length 4 rfl (by omega)
      rw [List.take_zero, List.nil_append, Nat.sub_zero, List.length_map]
      exact h.symm
    rw [e]
    exact hown1
  case round =>
    obtain ⟨k, hk, rfl, hown, hbel⟩ := hrel
    by_cases hkl : k < xs.length
    · obtain ⟨b, o, rfl, hlt, hc⟩ := (HA.out.below hbel) (by intro e; rw [List.map_eq_nil_iff] at e; rw [e] at hkl; exact absurd hkl (by simp))
      have HC := hid hc
      have hc0 : wr.cell? ⟨b, o + k * 4, none⟩ = some (.string xs[k].fId) := HC.out k _ (by rw [List.getElem?_map, List.getElem?_eq_getElem hkl]; rfl) 0 _ rfl
      have hc1 : wr.cell? ⟨b, o + k * 4 + 1, none⟩ = some (.int .i64 xs[k].fDays) := HC.out k _ (by rw [List.getElem?_map, List.getElem?_eq_getElem hkl]; rfl) 1 _ rfl
      have hc2 : wr.cell? ⟨b, o + k * 4 + 2, none⟩ = some (.int .i64 xs[k].fFirst) := HC.out k _ (by rw [List.getElem?_map, List.getElem?_eq_getElem hkl]; rfl) 2 _ rfl
      have hc3 : wr.cell? ⟨b, o + k * 4 + 3, none⟩ = some (.int .i64 xs[k].fLast) := HC.out k _ (by rw [List.getElem?_map, List.getElem?_eq_getElem hkl]; rfl) 3 _ rfl
      have HO := hid hown
      clear hc hown
      go_wp2_with fail
      refine (toWork_ok _ _).mono ?_
      rintro e w1 ⟨rfl, hb⟩
      have O1 := hid (own_below HO.out hb)
      have B1 := hid (below_up hbel (by have := hbel.size; omega) hb)
      have hold0 : w1.cell? ⟨w.heap.size, k * 4, none⟩ = some (.string ⟨#[]⟩) := by
        rw [O1.out.cellAt (k * 4) (by omega)]
        exact (flatten_at (j := 0) (partWork_len xs k) (copy_at (by simpa using hkl)) (by omega)).trans rfl
      have hfr0 := O1.out.frozenAt (k * 4)
      have hold1 : w1.cell? ⟨w.heap.size, k * 4 + 1, none⟩ = some (.int .i64 0) := by
        rw [O1.out.cellAt (k * 4 + 1) (by omega)]
        exact (flatten_at (j := 1) (partWork_len xs k) (copy_at (by simpa using hkl)) (by omega)).trans rfl
      have hfr1 := O1.out.frozenAt (k * 4 + 1)
      have hold2 : w1.cell? ⟨w.heap.size, k * 4 + 2, none⟩ = some (.int .i64 0) := by
        rw [O1.out.cellAt (k * 4 + 2) (by omega)]
        exact (flatten_at (j := 2) (partWork_len xs k) (copy_at (by simpa using hkl)) (by omega)).trans rfl
      have hfr2 := O1.out.frozenAt (k * 4 + 2)
      have hold3 : w1.cell? ⟨w.heap.size, k * 4 + 3, none⟩ = some (.int .i64 0) := by
        rw [O1.out.cellAt (k * 4 + 3) (by omega)]
        exact (flatten_at (j := 3) (partWork_len xs k) (copy_at (by simpa using hkl)) (by omega)).trans rfl
      have hfr3 := O1.out.frozenAt (k * 4 + 3)
      clear hb HO hc0 hc1 hc2 hc3
      go_wp2_with fail
      go_roundw
      case rel =>
        refine ⟨k + 1, by omega, by go_num, ?_, below_setCells (Nat.le_refl _) xs[k].cells B1.out⟩
        have e := own_setCells xs[k].cells (p := k * 4) O1.out
        rw [setSeg_flatten (partWork_len xs k) (by simp; omega) rfl] at e
        have e2 := copyRows_set (css := xs.map DWork.cells) (z := [Value.string ⟨#[]⟩, Value.int .i64 0, Value.int .i64 0, Value.int .i64 0]) (k := k) (by simpa using hkl)
        rw [List.getElem_map] at e2
        rw [e2] at e
        exact e
      case measure => simp [intOf]; omega
    · have hk2 : k = xs.length := by omega
      subst hk2
      have e : (xs.map DWork.cells).take xs.length ++ List.replicate ((xs.map DWork.cells).length - xs.length) [Value.string ⟨#[]⟩, Value.int .i64 0, Value.int .i64 0, Value.int .i64 0] = xs.map DWork.cells := by rw [List.take_of_length_le (by simp)]; simp
      rw [e] at hown
      have HO := hid hown
      clear hown e
      go_wp2_with fail
      go_ret
      exact ⟨_, rfl, HO.out, hbel⟩


theorem eqWork_same (x : DWork) (w : World) :
    Calls Try.prog 93 #[.agg #[.string x.fId, .int .i64 x.fDays, .int .i64 x.fFirst, .int .i64 x.fLast], .agg #[.string x.fId, .int .i64 x.fDays, .int .i64 x.fFirst, .int .i64 x.fLast]] w fun e w' => e = .returned (.bool true) ∧ Below w.heap.size w w' := by
  go_enter Try.func93, Try.ntmps93
  go_wp2_with fail
  go_ret
  exact ⟨rfl, (below_alloc _ _).alloc (by simp) _⟩


set_option maxHeartbeats 1600000 in
set_option maxRecDepth 100000 in
/-- two slices that read alike are alike -/
theorem eqWorkS_same (A A' : Option Addr) (c c' : Nat) (xs : List DWork) (w : World) (hA : RowsAt w 4 A (xs.map DWork.cells)) (hA' : RowsAt w 4 A' (xs.map DWork.cells)) (hn : xs.length ≤ 1048576) :
    Calls Try.prog 29 #[.slice A xs.length c, .slice A' xs.length c'] w fun e w' => e = .returned (.bool true) ∧ Below w.heap.size w w' := by
  have HA := hid hA
  have HA' := hid hA'
  clear hA hA'
  go_enter Try.func29, Try.ntmps29
  go_wp2_with fail
  go_loopw [5] (fun i wr => ∃ k : Nat, k ≤ xs.length ∧ i = .int .i64 k ∧ Below w.heap.size w wr) (fun i _ => xs.length - (intOf i).toNat)
  case atStart => exact ⟨0, Nat.zero_le _, rfl, Below.refl _ _⟩
  case round =>
    obtain ⟨k, hk, rfl, hbel⟩ := hrel
    by_cases hkl : k < xs.length
    · have hne : xs.map DWork.cells ≠ [] := by intro e; rw [List.map_eq_nil_iff] at e; rw [e] at hkl; exact absurd hkl (by simp)
      obtain ⟨b, o, rfl, hlt, hc⟩ := (HA.out.below hbel) hne
      obtain ⟨b', o', rfl, hlt', hc'⟩ := (HA'.out.below hbel) hne
      have HC := hid hc
      have HC' := hid hc'
      have hc0 : wr.cell? ⟨b, o + k * 4, none⟩ = some (.string xs[k].fId) := HC.out k _ (by rw [List.getElem?_map, List.getElem?_eq_getElem hkl]; rfl) 0 _ rfl
      have hc1 : wr.cell? ⟨b, o + k * 4 + 1, none⟩ = some (.int .i64 xs[k].fDays) := HC.out k _ (by rw [List.getElem?_map, List.getElem?_eq_getElem hkl]; rfl) 1 _ rfl
      have hc2 : wr.cell? ⟨b, o + k * 4 + 2, none⟩ = some (.int .i64 xs[k].fFirst) := HC.out k _ (by rw [List.getElem?_map, List.getElem?_eq_getElem hkl]; rfl) 2 _ rfl
      have hc3 : wr.cell? ⟨b, o + k * 4 + 3, none⟩ = some (.int .i64 xs[k].fLast) := HC.out k _ (by rw [List.getElem?_map, List.getElem?_eq_getElem hkl]; rfl) 3 _ rfl
      have gc0 : wr.cell? ⟨b', o' + k * 4, none⟩ = some (.string xs[k].fId) := HC'.out k _ (by rw [List.getElem?_map, List.getElem?_eq_getElem hkl]; rfl) 0 _ rfl
      have gc1 : wr.cell? ⟨b', o' + k * 4 + 1, none⟩ = some (.int .i64 xs[k].fDays) := HC'.out k _ (by rw [List.getElem?_map, List.getElem?_eq_getElem hkl]; rfl) 1 _ rfl
      have gc2 : wr.cell? ⟨b', o' + k * 4 + 2, none⟩ = some (.int .i64 xs[k].fFirst) := HC'.out k _ (by rw [List.getElem?_map, List.getElem?_eq_getElem hkl]; rfl) 2 _ rfl
      have gc3 : wr.cell? ⟨b', o' + k * 4 + 3, none⟩ = some (.int .i64 xs[k].fLast) := HC'.out k _ (by rw [List.getElem?_map, List.getElem?_eq_getElem hkl]; rfl) 3 _ rfl
      have q0 : (0 : Int) ≤ (k : Int) := by omega
      have q1 : (k : Int) < xs.length := by omega
      have BW := hid hbel
      clear hc hc' hne hbel
      go_wp2_with fail
      go_region_held3 (fun w' => (True ∧ Below wr.heap.size wr w') ∧ w'.cell? ⟨b, o + k * 4, none⟩ = some (.string xs[k].fId) ∧ w'.cell? ⟨b, o + k * 4 + 1, none⟩ = some (.int .i64 xs[k].fDays) ∧ w'.cell? ⟨b, o + k * 4 + 2, none⟩ = some (.int .i64 xs[k].fFirst) ∧ w'.cell? ⟨b, o + k * 4 + 3, none⟩ = some (.int .i64 xs[k].fLast) ∧ w'.cell? ⟨b', o' + k * 4, none⟩ = some (.string xs[k].fId) ∧ w'.cell? ⟨b', o' + k * 4 + 1, none⟩ = some (.int .i64 xs[k].fDays) ∧ w'.cell? ⟨b', o' + k * 4 + 2, none⟩ = some (.int .i64 xs[k].fFirst) ∧ w'.cell? ⟨b', o' + k * 4 + 3, none⟩ = some (.int .i64 xs[k].fLast))
        (first | exact ⟨⟨trivial, (Below.refl _ _).drew⟩, hc0, hc1, hc2, hc3, gc0, gc1, gc2, gc3⟩ | exact keepM8 hlt hlt hlt hlt hlt' hlt' hlt' hlt' ‹_ ∧ _› ‹Below _ _ _›)
        ((go_at_call 93; refine (eqWork_same xs[k] _).mono ?_; rintro e w6 ⟨rfl, hb6⟩))
      obtain ⟨⟨_, hB⟩, _⟩ := ‹(_ ∧ Below _ _ _) ∧ _›
      have hbel2 := below_up BW.out (by have := BW.out.size; omega) hB
      go_wp2_with fail
      go_roundw
      case rel => exact ⟨k + 1, by omega, by go_num, hbel2⟩
      case measure => simp [intOf]; omega
    · go_wp2_with fail
      go_ret
      exact ⟨rfl, hbel⟩


theorem szWork_ok (x : DWork) (l : Int) (w : World) (hx : x.ok) (h0 : 0 ≤ l) (h1 : l ≤ 1048576) :
    Calls Try.prog 87 #[.agg #[.string x.fId, .int .i64 x.fDays, .int .i64 x.fFirst, .int .i64 x.fLast], .int .i64 l] w fun e w' => (∃ z : Int, e = .returned (.int .i64 z) ∧ -1 ≤ z ∧ z ≤ l) ∧ Below w.heap.size w w' := by
  unfold DWork.ok at hx
  go_enter Try.func87, Try.ntmps87
  go_wp2_with fail
  all_goals (go_ret; exact ⟨⟨_, rfl, by omega, by omega⟩, below_alloc _ _⟩)


set_option maxHeartbeats 1600000 in
set_option maxRecDepth 100000 in
theorem szWorkS_ok (A : Option Addr) (c : Nat) (xs : List DWork) (l : Int) (w : World) (hA : RowsAt w 4 A (xs.map DWork.cells)) (hok : ∀ x ∈ xs, x.ok) (hn : xs.length ≤ 9223372036854775807) (h0 : 0 ≤ l) (h1 : l ≤ 1048576) :
    Calls Try.prog 24 #[.slice A xs.length c, .int .i64 l] w fun e w' => (∃ z : Int, e = .returned (.int .i64 z) ∧ -1 ≤ z ∧ z ≤ l ∧ (0 ≤ z → (xs.length : Int) ≤ l)) ∧ Below w.heap.size w w' := by
  have HA := hid hA
  have HK := hid hok
  clear hA hok
  go_enter Try.func24, Try.ntmps24
  go_wp2_with fail
  · go_ret
    exact ⟨⟨_, rfl, by omega, by omega, fun h => absurd h (by omega)⟩, Below.refl _ _⟩
  go_loopw [1, 5] (fun l' i wr => ∃ (k : Nat) (z : Int), k ≤ xs.length ∧ i = .int .i64 k ∧ l' = .int .i64 z ∧ 0 ≤ z ∧ z ≤ l ∧ Below w.heap.size w wr) (fun _ i _ => xs.length - (intOf i).toNat)
  case atStart => exact ⟨0, _, Nat.zero_le _, rfl, rfl, by omega, by omega, Below.refl _ _⟩
  case round =>
    obtain ⟨k, z, hk, rfl, rfl, hz0, hz1, hbel⟩ := hrel
    by_cases hkl : k < xs.length
    · have hne : xs.map DWork.cells ≠ [] := by intro e; rw [List.map_eq_nil_iff] at e; rw [e] at hkl; exact absurd hkl (by simp)
      obtain ⟨b, o, rfl, hlt, hc⟩ := (HA.out.below hbel) hne
      have HC := hid hc
      have hc0 : wr.cell? ⟨b, o + k * 4, none⟩ = some (.string xs[k].fId) := HC.out k _ (by rw [List.getElem?_map, List.getElem?_eq_getElem hkl]; rfl) 0 _ rfl
      have hc1 : wr.cell? ⟨b, o + k * 4 + 1, none⟩ = some (.int .i64 xs[k].fDays) := HC.out k _ (by rw [List.getElem?_map, List.getElem?_eq_getElem hkl]; rfl) 1 _ rfl
      have hc2 : wr.cell? ⟨b, o + k * 4 + 2, none⟩ = some (.int .i64 xs[k].fFirst) := HC.out k _ (by rw [List.getElem?_map, List.getElem?_eq_getElem hkl]; rfl) 2 _ rfl
      have hc3 : wr.cell? ⟨b, o + k * 4 + 3, none⟩ = some (.int .i64 xs[k].fLast) := HC.out k _ (by rw [List.getElem?_map, List.getElem?_eq_getElem hkl]; rfl) 3 _ rfl
      have hx := hid (HK.out xs[k] (List.getElem_mem hkl))
      have q0 : (0 : Int) ≤ (k : Int) := by omega
      have q1 : (k : Int) < xs.length := by omega
      have BW := hid hbel
      clear hc hne hbel
      go_wp2_with fail
      refine (szWork_ok xs[k] z _ hx.out (by omega) (by omega)).mono ?_
      rintro e w1 ⟨⟨z1, rfl, hz2, hz3⟩, hb⟩
      have B1 := hid (below_up BW.out (by have := BW.out.size; omega) hb)
      clear hb
      go_wp2_with fail
      · go_ret
        exact ⟨⟨_, rfl, by omega, by omega, fun h => absurd h (by omega)⟩, B1.out⟩
      go_roundw
      case rel => exact ⟨k + 1, z1, by omega, by go_num, rfl, by omega, by omega, B1.out⟩
      case measure => simp [intOf]; omega
    · go_wp2_with fail
      go_ret
      exact ⟨⟨_, rfl, by omega, by omega, fun _ => by omega⟩, hbel⟩

end Go.Proofs.Ytdbjbkdcmhekfaa
