/- States: find, value and the reference's l27At, l27Get. -/
import Derived.Test.YtjeklbhdngkngaaStMath
import Derived.Test.YtjeklbhdngkngaaHas
namespace Go.Proofs.Ytjeklbhdngkngaa
open Go.RowKit
set_option linter.unusedVariables false

theorem quiet_more {P : Program} {f : FuncId} {args : Array Value} {w : World} {n : Nat} {v : Value}
    (h : Calls P f args (w.drewN n) fun e w' => e = .returned v ∧ ∃ m, w' = (w.drewN n).drewN m) : Calls P f args (w.drewN n) fun e w'' => e = .returned v ∧ ∃ m, w'' = w.drewN m :=
  h.mono fun _ _ ⟨he, m, hm⟩ => ⟨he, n + m, by rw [hm]; simp [World.drewN, Nat.add_assoc]⟩

set_option maxHeartbeats 1600000 in
set_option maxRecDepth 100000 in
theorem find_ok (A : Option Addr) (c : Nat) (xs : List DSetting) (x : ByteArray) (w : World) (hA : RowsAt w 2 A (xs.map DSetting.cells)) (hs : StateTo xs xs.length) (hn : xs.length ≤ 24) :
    Calls Try.prog 130 #[.slice A xs.length c, .string x] w fun e w' => (∃ (i : Nat) (b : Bool), e = .returned (.tuple #[.int .i64 i, .bool b]) ∧ i ≤ xs.length ∧ (∀ j (h : j < xs.length), j < i → stn xs[j] < x.data.toList) ∧ ((b = true ∧ ∃ h : i < xs.length, stn xs[i] = x.data.toList) ∨ (b = false ∧ ∀ j (h : j < xs.length), i ≤ j → x.data.toList < stn xs[j]))) ∧ ∃ m, w' = w.drewN m := by
  have HA := hid hA
  have HS := hid hs
  clear hA hs
  go_enter Try.func130, Try.ntmps130
  go_wp2_with fail
  go_loop [6] (fun v => ∃ k : Nat, k ≤ xs.length ∧ v = .int .i64 k ∧ ∀ j (h : j < xs.length), j < k → stn xs[j] < x.data.toList) (fun v => xs.length - (intOf v).toNat)
  case atStart => exact ⟨0, Nat.zero_le _, rfl, fun j hj h => absurd h (Nat.not_lt_zero _)⟩
  case round =>
    obtain ⟨k, hk, rfl, hall⟩ := hrel
    have HL := hid hall
    clear hall
    by_cases hkl : k < xs.length
    · have hne : xs.map DSetting.cells ≠ [] := by intro e; rw [List.map_eq_nil_iff] at e; rw [e] at hkl; exact absurd hkl (by simp)
      obtain ⟨b, o, rfl, hlt, hc⟩ := HA.out hne
      have HC := hid hc
      have hc0 : w.cell? ⟨b, o + k * 2, none⟩ = some (.string xs[k].fName) := HC.out k _ (by rw [List.getElem?_map, List.getElem?_eq_getElem hkl]; rfl) 0 _ rfl
      have q0 : (0 : Int) ≤ (k : Int) := by omega
      have q1 : (k : Int) < xs.length := by omega
      clear hc hne
      by_cases l1 : stn xs[k] < x.data.toList
      · have d1 : Op.bytesLess xs[k].fName.toList x.toList = true := by rw [less_iff]; exact decide_eq_true l1
        have HL2 := hid (show ∀ j (hj : j < xs.length), j < k + 1 → stn xs[j] < x.data.toList from fun j hj h => by
          rcases Nat.lt_or_ge j k with h3 | h3
          · exact HL.out j hj h3
          · have : j = k := by omega
            subst this
            exact l1)
        clear l1
        go_wp2_with fail
        go_round
        case rel => exact ⟨k + 1, by omega, by go_num, HL2.out⟩
        case measure => simp [intOf]; omega
      · have d1 : Op.bytesLess xs[k].fName.toList x.toList = false := by rw [less_iff]; exact decide_eq_false l1
        by_cases l2 : stn xs[k] = x.data.toList
        · have d2 : (xs[k].fName.toList == x.toList) = true := by rw [beq_iff_eq, Lib.toList_data, Lib.toList_data]; exact l2
          have L2 := hid l2
          clear l1 l2
          go_wp2_with fail
          go_quiet (fail)
          go_wp2_with fail
          go_ret2
          exact ⟨⟨k, true, rfl, by omega, HL.out, .inl ⟨rfl, hkl, L2.out⟩⟩, _, rfl⟩
        · have d2 : (xs[k].fName.toList == x.toList) = false := by
            rw [beq_eq_false_iff_ne, Lib.toList_data, Lib.toList_data]
            exact l2
          have L2 := hid ((str_lt_or_eq (List.not_lt.1 l1)).resolve_right fun e => l2 e.symm)
          clear l1 l2
          go_wp2_with fail
          go_quiet (fail)
          go_wp2_with fail
          go_ret2
          refine ⟨⟨k, false, rfl, by omega, HL.out, .inr ⟨rfl, fun j h hkj => ?_⟩⟩, _, rfl⟩
          rcases Nat.lt_or_ge k j with h3 | h3
          · exact List.lt_trans L2.out (st_lt HS.out j h k h3)
          · have : j = k := by omega
            subst this
            exact L2.out
    · have q1 : ¬ (k : Int) < xs.length := by omega
      go_wp2_with fail
      go_quiet (fail)
      go_wp2_with fail
      go_ret2
      exact ⟨⟨k, false, rfl, hk, HL.out, .inr ⟨rfl, fun j h hkj => absurd h (by omega)⟩⟩, _, rfl⟩
theorem st_ne {xs : List DSetting} {z : Str} {i : Nat} (h : ∀ j (hj : j < xs.length), j < i → stn xs[j] < z) : ∀ j (hj : j < xs.length), j < i → stn xs[j] ≠ z := fun j hj hji e => by
  have := h j hj hji
  rw [e] at this
  exact List.lt_irrefl _ this

set_option maxHeartbeats 1600000 in
set_option maxRecDepth 100000 in
theorem value_ok (A : Option Addr) (c : Nat) (xs : List DSetting) (x : ByteArray) (w : World) (hA : RowsAt w 2 A (xs.map DSetting.cells)) (hs : StateTo xs xs.length) (hn : xs.length ≤ 24) :
    Calls Try.prog 68 #[.slice A xs.length c, .string x] w fun e w' => e = .returned (.int .i64 (valN xs x.data.toList)) ∧ ∃ m, w' = w.drewN m := by
  have HA := hid hA
  have HS := hid hs
  clear hA hs
  go_enter Try.func68, Try.ntmps68
  go_wp2_with fail
  refine (find_ok A c xs x w HA.out HS.out hn).mono ?_
  rintro e w1 ⟨⟨k, fb, rfl, hk, hl, hor⟩, m, rfl⟩
  have HL := hid hl
  clear hl
  rcases hor with ⟨rfl, hkl, he⟩ | ⟨rfl, hu⟩
  · have hne : xs.map DSetting.cells ≠ [] := by intro e; rw [List.map_eq_nil_iff] at e; rw [e] at hkl; exact absurd hkl (by simp)
    obtain ⟨b, o, rfl, hlt, hc⟩ := HA.out hne
    have HC := hid hc
    have hc1 : w.cell? ⟨b, o + k * 2 + 1, none⟩ = some (.int .i64 xs[k].fValue) := HC.out k _ (by rw [List.getElem?_map, List.getElem?_eq_getElem hkl]; rfl) 1 _ rfl
    have q0 : (0 : Int) ≤ (k : Int) := by omega
    have q1 : (k : Int) < xs.length := by omega
    clear hc hne
    have HV := hid (valN_at hkl he (st_ne HL.out))
    clear he
    go_wp2_with fail
    go_ret
    exact ⟨ret_int HV.out.symm, _, rfl⟩
  · have HV := hid (valN_none (xs := xs) (z := x.data.toList) (fun j hj e => by
      rcases Nat.lt_or_ge j k with h3 | h3
      · exact st_ne HL.out j hj h3 e
      · have := hu j hj h3
        rw [e] at this
        exact List.lt_irrefl _ this))
    clear hu
    go_wp2_with fail
    go_ret
    exact ⟨ret_int HV.out.symm, _, rfl⟩

set_option maxHeartbeats 1600000 in
set_option maxRecDepth 100000 in
theorem l27At_ok (A : Option Addr) (c : Nat) (xs : List DSetting) (x : ByteArray) (w : World) (hA : RowsAt w 2 A (xs.map DSetting.cells)) (hn : xs.length ≤ 1000) :
    Calls Try.prog 75 #[.slice A xs.length c, .string x] w fun e w' => (∃ r : Int, e = .returned (.int .i64 r) ∧ ((r = -1 ∧ ∀ j (h : j < xs.length), stn xs[j] ≠ x.data.toList) ∨ ∃ (i : Nat), r = (i : Int) ∧ (∃ hi : i < xs.length, stn xs[i] = x.data.toList) ∧ ∀ j (h : j < xs.length), j < i → stn xs[j] ≠ x.data.toList)) ∧ w = w' := by
  have HA := hid hA
  clear hA
  go_enter Try.func75, Try.ntmps75
  go_wp2_with fail
  go_loop [5] (fun v => ∃ k : Nat, k ≤ xs.length ∧ v = .int .i64 k ∧ ∀ j (h : j < xs.length), j < k → stn xs[j] ≠ x.data.toList) (fun v => xs.length - (intOf v).toNat)
  case atStart => exact ⟨0, Nat.zero_le _, rfl, fun j hj h => absurd h (Nat.not_lt_zero _)⟩
  case round =>
    obtain ⟨k, hk, rfl, hall⟩ := hrel
    have HL := hid hall
    clear hall
    by_cases hkl : k < xs.length
    · have hne : xs.map DSetting.cells ≠ [] := by intro e; rw [List.map_eq_nil_iff] at e; rw [e] at hkl; exact absurd hkl (by simp)
      obtain ⟨b, o, rfl, hlt, hc⟩ := HA.out hne
      have HC := hid hc
      have hc0 : w.cell? ⟨b, o + k * 2, none⟩ = some (.string xs[k].fName) := HC.out k _ (by rw [List.getElem?_map, List.getElem?_eq_getElem hkl]; rfl) 0 _ rfl
      have q0 : (0 : Int) ≤ (k : Int) := by omega
      have q1 : (k : Int) < xs.length := by omega
      clear hc hne
      by_cases l2 : stn xs[k] = x.data.toList
      · have d2 : (xs[k].fName.toList == x.toList) = true := by rw [beq_iff_eq, Lib.toList_data, Lib.toList_data]; exact l2
        have L2 := hid l2
        clear l2
        go_wp2_with fail
        go_ret
        exact ⟨⟨_, rfl, .inr ⟨k, rfl, ⟨hkl, L2.out⟩, HL.out⟩⟩, rfl⟩
      · have d2 : (xs[k].fName.toList == x.toList) = false := by
          rw [beq_eq_false_iff_ne, Lib.toList_data, Lib.toList_data]
          exact l2
        have HL2 := hid (show ∀ j (hj : j < xs.length), j < k + 1 → stn xs[j] ≠ x.data.toList from fun j hj h => by
          rcases Nat.lt_or_ge j k with h3 | h3
          · exact HL.out j hj h3
          · have : j = k := by omega
            subst this
            exact l2)
        clear l2
        go_wp2_with fail
        go_round
        case rel => exact ⟨k + 1, by omega, by go_num, HL2.out⟩
        case measure => simp [intOf]; omega
    · go_wp2_with fail
      go_ret
      exact ⟨⟨_, rfl, .inl ⟨rfl, fun j h => HL.out j h (by omega)⟩⟩, rfl⟩

set_option maxHeartbeats 1600000 in
set_option maxRecDepth 100000 in
theorem l27Get_ok (A : Option Addr) (c : Nat) (xs : List DSetting) (x : ByteArray) (w : World) (hA : RowsAt w 2 A (xs.map DSetting.cells)) (hn : xs.length ≤ 1000) :
    Calls Try.prog 127 #[.slice A xs.length c, .string x] w fun e w' => e = .returned (.agg #[.string (getN xs x.data.toList).fName, .int .i64 (getN xs x.data.toList).fValue]) ∧ Below w.heap.size w w' := by
  have HA := hid (hA.below (below_alloc w (.cells #[.string ⟨#[]⟩, .int .i64 0] 95)))
  clear hA
  go_enter Try.func127, Try.ntmps127
  go_wp2_with fail
  refine (l27At_ok A c xs x _ HA.out hn).mono ?_
  rintro e w1 ⟨⟨r, rfl, hor⟩, rfl⟩
  rcases hor with ⟨rfl, hno⟩ | ⟨k, rfl, ⟨hkl, he⟩, hno⟩
  · have HV := hid (getN_none hno)
    clear hno
    go_wp2_with fail
    refine bodyPost_ret (results_cell_row rfl _ _ w.heap.size _ _ _ _ rfl (heap_alloc_new w _) Try.underlying95 rfl (by kernel_rfl)) rfl ?_
    exact ⟨by rw [HV.out]; first | done | rfl, below_alloc _ _⟩
  · have hne : xs.map DSetting.cells ≠ [] := by intro e; rw [List.map_eq_nil_iff] at e; rw [e] at hkl; exact absurd hkl (by simp)
    obtain ⟨b, o, rfl, hlt, hc⟩ := HA.out hne
    have HC := hid hc
    have hc0 : (w.alloc (.cells #[.string ⟨#[]⟩, .int .i64 0] 95)).cell? ⟨b, o + k * 2, none⟩ = some (.string xs[k].fName) := HC.out k _ (by rw [List.getElem?_map, List.getElem?_eq_getElem hkl]; rfl) 0 _ rfl
    have hc1 : (w.alloc (.cells #[.string ⟨#[]⟩, .int .i64 0] 95)).cell? ⟨b, o + k * 2 + 1, none⟩ = some (.int .i64 xs[k].fValue) := HC.out k _ (by rw [List.getElem?_map, List.getElem?_eq_getElem hkl]; rfl) 1 _ rfl
    have q0 : (0 : Int) ≤ (k : Int) := by omega
    have q1 : (k : Int) < xs.length := by omega
    clear hc hne
    have HV := hid (getN_at hkl he hno)
    clear he hno
    go_wp2_with fail
    refine bodyPost_ret (results_cell_row rfl _ _ w.heap.size _ _ _ _ rfl (heap_alloc_new w _) Try.underlying95 rfl (by kernel_rfl)) rfl ?_
    exact ⟨by rw [HV.out]; first | done | rfl, below_alloc _ _⟩

end Go.Proofs.Ytjeklbhdngkngaa
