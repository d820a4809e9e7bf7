/- ApplyChanges: the program's apply. -/
import Derived.Test.YtjeklbhdngkngaaChangeM
import Derived.Test.YtjeklbhdngkngaaInsS
import Derived.Test.YtjeklbhdngkngaaDelS
import Derived.Test.YtjeklbhdngkngaaStVal
namespace Go.Proofs.Ytjeklbhdngkngaa
open Go.RowKit
set_option linter.unusedVariables false
attribute [-go_sem] Go.run_equalIn_agg

/-- what a change leaves: a row of the call's own and a code -/
def AppliedAt (B : Nat) (r : List DSetting × Int) (e : Ending) (w' : World) : Prop :=
  ∃ A c', e = .returned (.tuple #[.slice A r.1.length c', .int .i64 r.2]) ∧ w'.ownsRow B 95 2 (.slice A r.1.length c') r.1.length (r.1.map DSetting.cells).flatten
theorem AppliedAt.nil {B : Nat} {r : List DSetting × Int} {k : Int} {w' : World} (h : r = ([], k)) : AppliedAt B r (.returned (.tuple #[.slice none 0 0, .int .i64 k])) w' := by
  subst h
  exact ⟨none, 0, rfl, World.ownsRow_nil _ _ _ _⟩
theorem AppliedAt.own {B : Nat} {r : List DSetting × Int} {l : List DSetting} {A : Option Addr} {c n : Nat} {w' : World} (h : r = (l, 0)) (hn : l.length = n) (ho : w'.ownsRow B 95 2 (.slice A n c) n (l.map DSetting.cells).flatten) : AppliedAt B r (.returned (.tuple #[.slice A n c, .int .i64 0])) w' := by
  subst h hn
  exact ⟨A, c, rfl, ho⟩

set_option maxHeartbeats 3200000 in
set_option maxRecDepth 100000 in
theorem apply_ok (AA : Option Addr) (B cap : Nat) (xs : List DSetting) (c : DChange) (w : World) (hown : w.ownsRow B 95 2 (.slice AA xs.length cap) xs.length (xs.map DSetting.cells).flatten) (hs : StateTo xs xs.length) (hn : xs.length ≤ 24) (hc : chgB c = true) (hB : B ≤ w.heap.size) :
    Calls Try.prog 80 #[.slice AA xs.length cap, .agg #[.int .i64 c.fKind, .string c.fName, .int .i64 c.fValue]] w fun e w' => AppliedAt B (applyC xs c) e w' ∧ Below B w w' := by
  have hcap : xs.length ≤ cap ∧ cap ≤ 9223372036854775807 := by
    rcases hown.2 with ⟨h0, h1⟩ | ⟨g', cap', cur, hv, h1, h2, h3, h4, h5, h6⟩
    · injection h0 with a1 a2 a3
      omega
    · injection hv with a1 _ a3
      unfold maxLen at h4
      omega
  have O1 := hid (hown.alloc (.cells #[.int .i64 c.fKind, .string c.fName, .int .i64 c.fValue] 109))
  have HB := hid (show Below B w (w.alloc (.cells #[.int .i64 c.fKind, .string c.fName, .int .i64 c.fValue] 109)) from (Below.refl B w).alloc hB _)
  have z1 : (w.alloc (.cells #[.int .i64 c.fKind, .string c.fName, .int .i64 c.fValue] 109)).heap.size = w.heap.size + 1 := by simp
  have HR := hid (rows_own O1.out (by simp) (cellsSetting_len _))
  have HS := hid hs
  have HC := hid hc
  have hkind : c.fKind = 1 ∨ c.fKind = 2 := by
    simp only [chgB, Bool.and_eq_true, inB_iff] at hc
    omega
  have NC := HasC.new w [.int .i64 c.fKind, .string c.fName, .int .i64 c.fValue] 109
  have n0 := NC.2 0 _ rfl
  have n1 := NC.2 1 _ rfl
  have n2 := NC.2 2 _ rfl
  clear hown hs hc NC
  rcases hkind with hk1 | hk2
  · have dk : (c.fKind == 1) = true := by rw [hk1]; rfl
    have K1 := hid hk1
    clear hk1
    go_enter Try.func80, Try.ntmps80
    go_wp2_with fail
    refine (find_ok AA cap xs c.fName _ HR.out HS.out hn).mono ?_
    rintro e w1 ⟨⟨k, fb, rfl, hk, hl, hor⟩, m, rfl⟩
    have OD := (show ((w.alloc (.cells #[.int .i64 c.fKind, .string c.fName, .int .i64 c.fValue] 109)).drewN m).ownsRow B 95 2 (.slice AA xs.length cap) xs.length (xs.map DSetting.cells).flatten from O1.out)
    have BD := below_drewN' HB.out m
    have m0 : ((w.alloc (.cells #[.int .i64 c.fKind, .string c.fName, .int .i64 c.fValue] 109)).drewN m).cell? ⟨w.heap.size, 0, none⟩ = some (.int .i64 c.fKind) := n0
    have m1 : ((w.alloc (.cells #[.int .i64 c.fKind, .string c.fName, .int .i64 c.fValue] 109)).drewN m).cell? ⟨w.heap.size, 1, none⟩ = some (.string c.fName) := n1
    have m2 : ((w.alloc (.cells #[.int .i64 c.fKind, .string c.fName, .int .i64 c.fValue] 109)).drewN m).cell? ⟨w.heap.size, 2, none⟩ = some (.int .i64 c.fValue) := n2
    have hz : ((w.alloc (.cells #[.int .i64 c.fKind, .string c.fName, .int .i64 c.fValue] 109)).drewN m).heap.size = w.heap.size + 1 := z1
    generalize (w.alloc (.cells #[.int .i64 c.fKind, .string c.fName, .int .i64 c.fValue] 109)).drewN m = W at OD BD m0 m1 m2 hz ⊢
    have OD := hid OD
    have BD := hid BD
    clear n0 n1 n2
    rcases hor with ⟨rfl, hkl, he⟩ | ⟨rfl, hu⟩
    · have HA := hid (applyC_set K1.out hn HS.out hkl he)
      obtain ⟨g, cap', hv, hBg, hgl, _⟩ := own_form OD.out (by omega)
      injection hv with a1 a2 a3
      subst a1 a3
      have old0 : W.cell? ⟨g, k * 2, none⟩ = some (.string xs[k].fName) := by
        rw [OD.out.cellAt (k * 2) (by omega)]
        exact (flatten_at (j := 0) (cellsSetting_len xs) (by rw [List.getElem?_map, List.getElem?_eq_getElem hkl]; rfl) (by omega)).trans rfl
      have old1 : W.cell? ⟨g, k * 2 + 1, none⟩ = some (.int .i64 xs[k].fValue) := by
        rw [OD.out.cellAt (k * 2 + 1) (by omega)]
        exact (flatten_at (j := 1) (cellsSetting_len xs) (by rw [List.getElem?_map, List.getElem?_eq_getElem hkl]; rfl) (by omega)).trans rfl
      have fr0 := OD.out.frozenAt (k * 2)
      have fr1 := OD.out.frozenAt (k * 2 + 1)
      have q0 : (0 : Int) ≤ (k : Int) := by omega
      have q1 : (k : Int) < xs.length := by omega
      have OS := hid (own_setCells c.set.cells (p := k * 2) OD.out)
      have BS := hid (below_setCells (us := c.set.cells) (p := k * 2) hBg (BD.out))
      have e : setSeg (xs.map DSetting.cells).flatten (k * 2) c.set.cells = ((xs.set k c.set).map DSetting.cells).flatten := by
        rw [setSeg_flatten (cellsSetting_len xs) (by simpa using hkl) rfl, List.map_set]
      rw [e] at OS
      clear hl he e
      go_wp2_with fail
      go_ret2
      exact ⟨AppliedAt.own HA.out (by rw [List.length_set]) OS.out, BS.out⟩
    · by_cases h24 : xs.length = 24
      · have HA := hid (applyC_full K1.out h24 hk hl hu)
        have d24 : ((xs.length : Int) == 24) = true := by rw [beq_iff_eq]; omega
        clear hl hu h24
        go_wp2_with fail
        go_ret2
        exact ⟨AppliedAt.nil HA.out, BD.out⟩
      · have HA := hid (applyC_ins K1.out (by omega) hk hl hu)
        have d24 : ((xs.length : Int) == 24) = false := by rw [beq_eq_false_iff_ne]; omega
        have O2 := hid (show (W.alloc (.cells #[.string c.fName, .int .i64 c.fValue] 95)).ownsRow B 95 2 (.slice AA xs.length cap) xs.length (xs.map DSetting.cells).flatten from OD.out.alloc _)
        have B2 := hid (show Below B w (W.alloc (.cells #[.string c.fName, .int .i64 c.fValue] 95)) from (BD.out).alloc (by rw [hz]; omega) _)
        have V2 := hid (show (W.alloc (.cells #[.string c.fName, .int .i64 c.fValue] 95)).heap[w.heap.size + 1]? = some (.cells c.set.cells.toArray 95) by
          have h := heap_alloc_new W (.cells #[.string c.fName, .int .i64 c.fValue] 95)
          rw [hz] at h
          exact h)
        have hz2 : (W.alloc (.cells #[.string c.fName, .int .i64 c.fValue] 95)).heap.size = w.heap.size + 2 := by rw [show (W.alloc (.cells #[.string c.fName, .int .i64 c.fValue] 95)).heap.size = W.heap.size + 1 from by simp, hz]
        have HKL := hid hk
        clear hl hu
        go_wp2_with fail
        have key : Calls Try.prog 132 #[.slice AA xs.length cap, .int .i64 k, .slice (some ⟨w.heap.size + 1, 0, none⟩) 1 1] (W.alloc (.cells #[.string c.fName, .int .i64 c.fValue] 95)) fun e w' => ∃ A c', e = .returned (.slice A (xs.length + 1) c') ∧ w'.ownsRow B 95 2 (.slice A (xs.length + 1) c') (xs.length + 1) ((insSetting xs k c.set).map DSetting.cells).flatten ∧ Below B (W.alloc (.cells #[.string c.fName, .int .i64 c.fValue] 95)) w' := by
          have hV : ∀ j u, c.set.cells[j]? = some u → (W.alloc (.cells #[.string c.fName, .int .i64 c.fValue] 95)).cell? ⟨w.heap.size + 1, j, none⟩ = some u := fun j u hu => by rw [cell_of_row _ _ _ _ _ _ V2.out]; simpa using hu
          by_cases hke : k = xs.length
          · exact insEnd_ok AA k (w.heap.size + 1) B cap xs c.set _ O2.out hke hV (by rw [hz2]; omega) (by omega) (by rw [hz2]; omega) hcap.1 hcap.2
          · have hlt : k < xs.length := by have := HKL.out; omega
            obtain ⟨g, cap', hv, hBg, hgl, _⟩ := own_form OD.out (by omega)
            injection hv with a1 a2 a3
            subst a1 a3
            by_cases hroom : xs.length + 1 ≤ cap
            · exact insRoom_ok g k (w.heap.size + 1) B cap xs c.set _ O2.out hlt hroom V2.out (by rw [hz] at hgl; omega) (by omega) (by rw [hz2]; omega)
            · exact insGrow_ok g k (w.heap.size + 1) B cap xs c.set _ O2.out hlt (by omega) hcap.1 hV (by rw [hz2]; omega) (by omega) (by rw [hz2]; omega)
        refine key.mono ?_
        rintro e w3 ⟨A3, c3, rfl, ho, hb⟩
        have O3 := hid ho
        have B3 := hid (B2.out.trans hb)
        clear ho hb key
        go_wp2_with fail
        go_ret2
        exact ⟨AppliedAt.own HA.out (insSetting_length HKL.out) O3.out, B3.out⟩
  · have dk : (c.fKind == 1) = false := by rw [hk2]; rfl
    have K2 := hid (show c.fKind ≠ 1 by omega)
    clear hk2
    go_enter Try.func80, Try.ntmps80
    go_wp2_with fail
    refine (find_ok AA cap xs c.fName _ HR.out HS.out hn).mono ?_
    rintro e w1 ⟨⟨k, fb, rfl, hk, hl, hor⟩, m, rfl⟩
    have OD := (show ((w.alloc (.cells #[.int .i64 c.fKind, .string c.fName, .int .i64 c.fValue] 109)).drewN m).ownsRow B 95 2 (.slice AA xs.length cap) xs.length (xs.map DSetting.cells).flatten from O1.out)
    have BD := below_drewN' HB.out m
    have m0 : ((w.alloc (.cells #[.int .i64 c.fKind, .string c.fName, .int .i64 c.fValue] 109)).drewN m).cell? ⟨w.heap.size, 0, none⟩ = some (.int .i64 c.fKind) := n0
    have m1 : ((w.alloc (.cells #[.int .i64 c.fKind, .string c.fName, .int .i64 c.fValue] 109)).drewN m).cell? ⟨w.heap.size, 1, none⟩ = some (.string c.fName) := n1
    have m2 : ((w.alloc (.cells #[.int .i64 c.fKind, .string c.fName, .int .i64 c.fValue] 109)).drewN m).cell? ⟨w.heap.size, 2, none⟩ = some (.int .i64 c.fValue) := n2
    have hz : ((w.alloc (.cells #[.int .i64 c.fKind, .string c.fName, .int .i64 c.fValue] 109)).drewN m).heap.size = w.heap.size + 1 := z1
    generalize (w.alloc (.cells #[.int .i64 c.fKind, .string c.fName, .int .i64 c.fValue] 109)).drewN m = W at OD BD m0 m1 m2 hz ⊢
    have OD := hid OD
    have BD := hid BD
    clear n0 n1 n2
    rcases hor with ⟨rfl, hkl, he⟩ | ⟨rfl, hu⟩
    · obtain ⟨g, cap', hv, hBg, hgl, _⟩ := own_form OD.out (by omega)
      injection hv with a1 a2 a3
      subst a1 a3
      obtain ⟨d, hd⟩ : ∃ d, xs.length = k + d + 1 := ⟨xs.length - (k + 1), by omega⟩
      have HD := hid hd
      have old0 : W.cell? ⟨g, k * 2, none⟩ = some (.string xs[k].fName) := by
        rw [OD.out.cellAt (k * 2) (by omega)]
        exact (flatten_at (j := 0) (cellsSetting_len xs) (by rw [List.getElem?_map, List.getElem?_eq_getElem hkl]; rfl) (by omega)).trans rfl
      have old1 : W.cell? ⟨g, k * 2 + 1, none⟩ = some (.int .i64 xs[k].fValue) := by
        rw [OD.out.cellAt (k * 2 + 1) (by omega)]
        exact (flatten_at (j := 1) (cellsSetting_len xs) (by rw [List.getElem?_map, List.getElem?_eq_getElem hkl]; rfl) (by omega)).trans rfl
      have q0 : (0 : Int) ≤ (k : Int) := by omega
      have q1 : (k : Int) < xs.length := by omega
      have h0 := applyC_at K2.out hkl (st_ne hl) he
      cases hq : eqF xs[k].fName c.fName xs[k].fValue c.fValue
      · have HA := hid (show applyC xs c = ([], 6) by rw [h0, hq]; rfl)
        clear hl he hd h0
        go_wp2_with fail
        go_quiet (fail)
        go_wp2_with fail
        go_ret2
        exact ⟨AppliedAt.nil HA.out, below_drewN' BD.out _⟩
      · have HA := hid (show applyC xs c = (xs.eraseIdx k, 0) by rw [h0, hq]; rfl)
        clear hl he hd h0
        go_wp2_with fail
        go_quiet (fail)
        go_wp2_with fail
        have OQ := hid (show ∀ n, (W.drewN n).ownsRow B 95 2 (.slice (some ⟨g, 0, none⟩) xs.length cap) xs.length (xs.map DSetting.cells).flatten from fun _ => OD.out)
        have key := fun n => delSetting_ok g k d B cap xs (W.drewN n) (OQ.out n) HD.out (by omega) (by show B ≤ W.heap.size; rw [hz]; omega)
        rw [← HD.out] at key
        refine (key _).mono ?_
        rintro e w3 ⟨rfl, ho, hb⟩
        have O3 := hid ho
        have B3 := hid ((below_drewN' BD.out _).trans hb)
        clear ho hb key
        go_wp2_with fail
        go_ret2
        exact ⟨AppliedAt.own HA.out (by rw [List.length_eraseIdx_of_lt hkl]; have := HD.out; omega) O3.out, B3.out⟩
    · have HA := hid (applyC_none K2.out (fun j hj => by
        rcases Nat.lt_or_ge j k with h3 | h3
        · exact st_ne hl j hj h3
        · intro e
          have := hu j hj h3
          rw [e] at this
          exact List.lt_irrefl _ this))
      clear hl hu
      go_wp2_with fail
      go_ret2
      exact ⟨AppliedAt.nil HA.out, BD.out⟩
end Go.Proofs.Ytjeklbhdngkngaa
