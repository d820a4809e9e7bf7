/- The visits of a customer; customers who were missed. -/
import Derived.Test.YtjeklbhdngkngaaCust
import Derived.Test.YtjeklbhdngkngaaDelMath
import Derived.Test.YtjeklbhdngkngaaIVisit
namespace Go.Proofs.Ytjeklbhdngkngaa
open Go.RowKit
set_option linter.unusedVariables false

theorem zeros_str (n : Nat) : (Builtin.zeroCells (Value.string ⟨#[]⟩).cells n).toList = List.replicate n (Value.string ⟨#[]⟩) := by
  have h := made_one (Value.string ⟨#[]⟩) n rfl
  have e : Builtin.zeroCells (Value.string ⟨#[]⟩).cells n = madeCells (Value.string ⟨#[]⟩).cells (n * 1) := rfl
  rw [e, h]

theorem zeros_Visit (n : Nat) : (Builtin.zeroCells (Value.cells (.agg #[.int .i64 0, .string ⟨#[]⟩, .int .i64 0, .int .i64 0])) n).toList = (List.replicate n [Value.int .i64 0, Value.string ⟨#[]⟩, Value.int .i64 0, Value.int .i64 0]).flatten := by
  have h := made_rows (Value.cells (.agg #[.int .i64 0, .string ⟨#[]⟩, .int .i64 0, .int .i64 0])) n 4 rfl (by omega)
  have e : Builtin.zeroCells (Value.cells (.agg #[.int .i64 0, .string ⟨#[]⟩, .int .i64 0, .int .i64 0])) n = madeCells (Value.cells (.agg #[.int .i64 0, .string ⟨#[]⟩, .int .i64 0, .int .i64 0])) (n * 4) := rfl
  rw [e, h]
  rfl

/-- a visit is another customer's -/
def notOf (who : ByteArray) (x : DVisit) : Bool := !(x.fWho.toList == who.toList)

set_option maxHeartbeats 1600000 in
set_option maxRecDepth 100000 in
theorem visClo_ok (x : DVisit) (b : Nat) (who : ByteArray) (w : World) (hlt : b < w.heap.size) (hcell : w.cell? ⟨b, 0, none⟩ = some (.string who)) :
    Calls Try.prog 146 #[.agg #[.int .i64 x.fDay, .string x.fWho, .int .i64 x.fKind, .int .i64 x.fAmount], .pointer (some ⟨b, 0, none⟩)] w fun e w' => e = .returned (.bool (notOf who x)) ∧ Below w.heap.size w w' := by
  have g1 : (w.alloc (.cells #[.int .i64 x.fDay, .string x.fWho, .int .i64 x.fKind, .int .i64 x.fAmount] 76)).cell? ⟨b, 0, none⟩ = some (.string who) := ((below_alloc w _).cell (p := ⟨b, 0, none⟩) hlt).trans hcell
  clear hcell
  go_enter Try.func146, Try.ntmps146
  go_wp2_with fail
  go_ret
  exact ⟨rfl, below_alloc _ _⟩

set_option maxHeartbeats 1600000 in
set_option maxRecDepth 100000 in
theorem idxVis_ok (g c B : Nat) (xs : List DVisit) (p : DVisit → Bool) (b3 : Nat) (w0 w : World) (hown : w.ownsRow B 76 4 (.slice (some ⟨g, 0, none⟩) xs.length c) xs.length (xs.map DVisit.cells).flatten) (hw : Below B w0 w) (hB : B ≤ w.heap.size) (hclo : ∀ (x : DVisit) (w' : World), Below B w0 w' → Calls Try.prog 146 #[.agg #[.int .i64 x.fDay, .string x.fWho, .int .i64 x.fKind, .int .i64 x.fAmount], .pointer (some ⟨b3, 0, none⟩)] w' fun e w'' => e = .returned (.bool (p x)) ∧ Below w'.heap.size w' w'') (hn : xs.length ≤ 100000) :
    Calls Try.prog 168 #[.slice (some ⟨g, 0, none⟩) xs.length c, .func (.func 146) #[] #[.pointer (some ⟨b3, 0, none⟩)]] w fun e w' => (∃ r : Int, e = .returned (.int .i64 r) ∧ ((r = -1 ∧ ∀ j (h : j < xs.length), p xs[j] = false) ∨ (∃ i : Nat, r = (i : Int) ∧ ∃ hi : i < xs.length, (∀ j (h : j < xs.length), j < i → p xs[j] = false) ∧ p xs[i] = true))) ∧ Below w.heap.size w w' := by
  have HO0 := hid hown
  have HW := hid hw
  have HCL := hid hclo
  clear hown hw hclo
  go_enter Try.func168, Try.ntmps168
  go_wp2_with fail
  go_loopw [8] (fun i wr => ∃ k : Nat, k ≤ xs.length ∧ i = .int .i64 k ∧ (∀ j (h : j < xs.length), j < k → p xs[j] = false) ∧ Below w.heap.size w wr) (fun i _ => xs.length - (intOf i).toNat)
  case atStart => exact ⟨0, Nat.zero_le _, rfl, fun _ _ h => absurd h (by omega), Below.refl _ _⟩
  case round =>
    obtain ⟨k, hk, rfl, hall, hbel⟩ := hrel
    have HL := hid hall
    have HB := hid hbel
    clear hall hbel
    by_cases hkl : k < xs.length
    · have HO := hid (own_below HO0.out HB.out)
      have k0 : wr.cell? ⟨g, k * 4, none⟩ = some (.int .i64 xs[k].fDay) := by
        rw [HO.out.cellAt (k * 4) (by omega)]
        exact (flatten_at (j := 0) (cellsVisit_len _) (show (xs.map DVisit.cells)[k]? = some xs[k].cells by rw [List.getElem?_map, List.getElem?_eq_getElem hkl]; rfl) (by omega)).trans rfl
      have k1 : wr.cell? ⟨g, k * 4 + 1, none⟩ = some (.string xs[k].fWho) := by
        rw [HO.out.cellAt (k * 4 + 1) (by omega)]
        exact (flatten_at (j := 1) (cellsVisit_len _) (show (xs.map DVisit.cells)[k]? = some xs[k].cells by rw [List.getElem?_map, List.getElem?_eq_getElem hkl]; rfl) (by omega)).trans rfl
      have k2 : wr.cell? ⟨g, k * 4 + 2, none⟩ = some (.int .i64 xs[k].fKind) := by
        rw [HO.out.cellAt (k * 4 + 2) (by omega)]
        exact (flatten_at (j := 2) (cellsVisit_len _) (show (xs.map DVisit.cells)[k]? = some xs[k].cells by rw [List.getElem?_map, List.getElem?_eq_getElem hkl]; rfl) (by omega)).trans rfl
      have k3 : wr.cell? ⟨g, k * 4 + 3, none⟩ = some (.int .i64 xs[k].fAmount) := by
        rw [HO.out.cellAt (k * 4 + 3) (by omega)]
        exact (flatten_at (j := 3) (cellsVisit_len _) (show (xs.map DVisit.cells)[k]? = some xs[k].cells by rw [List.getElem?_map, List.getElem?_eq_getElem hkl]; rfl) (by omega)).trans rfl
      have q0 : (0 : Int) ≤ (k : Int) := by omega
      have q1 : (k : Int) < xs.length := by omega
      have HB2 := hid (below_up HW.out hB HB.out)
      cases d : p xs[k]
      · have HS := hid (show ∀ j (h : j < xs.length), j < k + 1 → p xs[j] = false from fun j h hj => by
          rcases Nat.lt_or_ge j k with h3 | h3
          · exact HL.out j h h3
          · have e : j = k := by omega
            subst e; exact d)
        have D := hid d
        clear d
        go_wp2_with (go_at_call 146; refine (HCL.out xs[k] _ HB2.out).mono ?_; rintro e w5 ⟨rfl, hb5⟩; rw [D.out])
        go_roundw
        case rel => exact ⟨k + 1, by omega, by go_num, HS.out, below_trans HB.out hb5⟩
        case measure => simp [intOf]; omega
      · have D := hid d
        clear d
        go_wp2_with (go_at_call 146; refine (HCL.out xs[k] _ HB2.out).mono ?_; rintro e w5 ⟨rfl, hb5⟩; rw [D.out])
        go_ret
        exact ⟨⟨_, rfl, .inr ⟨k, rfl, hkl, HL.out, D.out⟩⟩, below_trans HB.out hb5⟩
    · go_wp2_with fail
      go_ret
      exact ⟨⟨_, rfl, .inl ⟨rfl, fun j h => HL.out j h (by omega)⟩⟩, HB.out⟩

set_option maxHeartbeats 1600000 in
set_option maxRecDepth 100000 in
theorem delVis_ok (g c B : Nat) (xs : List DVisit) (p : DVisit → Bool) (b3 : Nat) (w0 w : World) (hown : w.ownsRow B 76 4 (.slice (some ⟨g, 0, none⟩) xs.length c) xs.length (xs.map DVisit.cells).flatten) (hw : Below B w0 w) (hB : B ≤ w.heap.size) (hclo : ∀ (x : DVisit) (w' : World), Below B w0 w' → Calls Try.prog 146 #[.agg #[.int .i64 x.fDay, .string x.fWho, .int .i64 x.fKind, .int .i64 x.fAmount], .pointer (some ⟨b3, 0, none⟩)] w' fun e w'' => e = .returned (.bool (p x)) ∧ Below w'.heap.size w' w'') (hn : xs.length ≤ 100000) :
    Calls Try.prog 145 #[.slice (some ⟨g, 0, none⟩) xs.length c, .func (.func 146) #[] #[.pointer (some ⟨b3, 0, none⟩)]] w fun e w' => e = .returned (.slice (some ⟨g, 0, none⟩) (xs.filter (fun x => !p x)).length c) ∧ w'.ownsRow B 76 4 (.slice (some ⟨g, 0, none⟩) (xs.filter (fun x => !p x)).length c) (xs.filter (fun x => !p x)).length ((xs.filter (fun x => !p x)).map DVisit.cells).flatten ∧ Below B w w' := by
  obtain ⟨hlc, hcm, hBg, hg⟩ := own_cap hown
  have hc3 : c ≤ 9223372036854775807 := by unfold maxLen at hcm; omega
  have HO0 := hid hown
  have HW := hid hw
  have HCL := hid hclo
  clear hown hw hclo hcm
  go_enter Try.func145, Try.ntmps145
  go_wp2_with fail
  refine (idxVis_ok g c B xs p b3 w0 w HO0.out HW.out hB HCL.out hn).mono ?_
  rintro e w1 ⟨⟨r, rfl, hr⟩, hb⟩
  have B1 := hid hb
  clear hb
  rcases hr with ⟨rfl, hall⟩ | ⟨i0, rfl, hi, hpre, hp⟩
  · have HFL := hid (filter_all hall)
    clear hall
    go_wp2_with fail
    go_ret
    exact ⟨by rw [HFL.out]; first | done | rfl, by rw [HFL.out]; exact own_below HO0.out B1.out, B1.out.mono hB⟩
  have HI0 := hid (DelInv.start hi hpre hp)
  have e1 : ((i0 : Int) == -1) = false := by rw [beq_eq_false_iff_ne]; omega
  clear hpre hp
  go_wp2_with fail
  go_loopw [5, 6] (fun vi vj wr => ∃ (ii jj : Nat) (ys : List DVisit), vi = .int .i64 ii ∧ vj = .int .i64 jj ∧ DelInv p xs ys jj ii ∧ wr.ownsRow B 76 4 (.slice (some ⟨g, 0, none⟩) xs.length c) xs.length (ys.map DVisit.cells).flatten ∧ Below B w wr) (fun _ vj _ => xs.length - (intOf vj).toNat)
  case atStart => exact ⟨i0, i0 + 1, xs, rfl, by go_num, HI0.out, own_below HO0.out B1.out, B1.out.mono hB⟩
  case round =>
    obtain ⟨ii, jj, ys, rfl, rfl, hinv, hown, hbel⟩ := hrel
    have HI := hid hinv
    have HO := hid hown
    have HB := hid hbel
    have hBw : B ≤ wr.heap.size := by have := hbel.size; omega
    have hij := hinv.le
    have hjx := hinv.jle
    have hyl := hid hinv.len
    clear hinv hown hbel
    have q0 : (0 : Int) ≤ (jj : Int) := by omega
    have q2 : (0 : Int) ≤ (ii : Int) := by omega
    have q3 : (ii : Int) < xs.length := by omega
    by_cases hjl : jj < xs.length
    · have q1 : (jj : Int) < xs.length := by omega
      have HY := hid (HI.out.at hjl)
      have k0 : wr.cell? ⟨g, jj * 4, none⟩ = some (.int .i64 xs[jj].fDay) := by
        rw [HO.out.cellAt (jj * 4) (by omega)]
        exact (flatten_at (j := 0) (cellsVisit_len _) (show (ys.map DVisit.cells)[jj]? = some xs[jj].cells by rw [List.getElem?_map, HY.out]; rfl) (by omega)).trans rfl
      have k1 : wr.cell? ⟨g, jj * 4 + 1, none⟩ = some (.string xs[jj].fWho) := by
        rw [HO.out.cellAt (jj * 4 + 1) (by omega)]
        exact (flatten_at (j := 1) (cellsVisit_len _) (show (ys.map DVisit.cells)[jj]? = some xs[jj].cells by rw [List.getElem?_map, HY.out]; rfl) (by omega)).trans rfl
      have k2 : wr.cell? ⟨g, jj * 4 + 2, none⟩ = some (.int .i64 xs[jj].fKind) := by
        rw [HO.out.cellAt (jj * 4 + 2) (by omega)]
        exact (flatten_at (j := 2) (cellsVisit_len _) (show (ys.map DVisit.cells)[jj]? = some xs[jj].cells by rw [List.getElem?_map, HY.out]; rfl) (by omega)).trans rfl
      have k3 : wr.cell? ⟨g, jj * 4 + 3, none⟩ = some (.int .i64 xs[jj].fAmount) := by
        rw [HO.out.cellAt (jj * 4 + 3) (by omega)]
        exact (flatten_at (j := 3) (cellsVisit_len _) (show (ys.map DVisit.cells)[jj]? = some xs[jj].cells by rw [List.getElem?_map, HY.out]; rfl) (by omega)).trans rfl
      have HB2 := hid (HW.out.trans HB.out)
      have NC := hid (HasC.new wr [.int .i64 xs[jj].fDay, .string xs[jj].fWho, .int .i64 xs[jj].fKind, .int .i64 xs[jj].fAmount] 76)
      have n0 := NC.out.2 0 _ rfl
      have n1 := NC.out.2 1 _ rfl
      have n2 := NC.out.2 2 _ rfl
      have n3 := NC.out.2 3 _ rfl
      have HBx := hid (HB.out.alloc hBw (.cells #[.int .i64 xs[jj].fDay, .string xs[jj].fWho, .int .i64 xs[jj].fKind, .int .i64 xs[jj].fAmount] 76))
      have HOx := hid (HO.out.alloc (.cells #[.int .i64 xs[jj].fDay, .string xs[jj].fWho, .int .i64 xs[jj].fKind, .int .i64 xs[jj].fAmount] 76))
      have HB2x := hid (HW.out.trans HBx.out)
      cases d : p xs[jj]
      · have HK := hid (HI.out.keep hjl d)
        have D := hid d
        clear d
        go_wp2_with (go_at_call 146; refine (HCL.out xs[jj] _ HB2x.out).mono ?_; rintro e w5 ⟨rfl, hb5⟩; rw [D.out]; have m0 := ((NC.out.below hb5).2 0 _ rfl); have m1 := ((NC.out.below hb5).2 1 _ rfl); have m2 := ((NC.out.below hb5).2 2 _ rfl); have m3 := ((NC.out.below hb5).2 3 _ rfl); have O5 := hid (own_below HOx.out hb5); obtain ⟨u0, hold0⟩ := own_cell O5.out (q := ii * 4) (by omega); have hfr0 := O5.out.frozenAt (ii * 4); obtain ⟨u1, hold1⟩ := own_cell O5.out (q := ii * 4 + 1) (by omega); have hfr1 := O5.out.frozenAt (ii * 4 + 1); obtain ⟨u2, hold2⟩ := own_cell O5.out (q := ii * 4 + 2) (by omega); have hfr2 := O5.out.frozenAt (ii * 4 + 2); obtain ⟨u3, hold3⟩ := own_cell O5.out (q := ii * 4 + 3) (by omega); have hfr3 := O5.out.frozenAt (ii * 4 + 3); have HS := hid (own_setCells [.int .i64 xs[jj].fDay, .string xs[jj].fWho, .int .i64 xs[jj].fKind, .int .i64 xs[jj].fAmount] (p := ii * 4) O5.out); have B5 := hid (below_up HBx.out (by have := HBx.out.size; omega) hb5); clear hb5)
        go_roundw
        case rel =>
          refine ⟨ii + 1, jj + 1, ys.set ii xs[jj], by go_num, by go_num, HK.out, ?_, (below_setCells hBg [.int .i64 xs[jj].fDay, .string xs[jj].fWho, .int .i64 xs[jj].fKind, .int .i64 xs[jj].fAmount] B5.out)⟩
          · have e := HS.out
            have e2 : setSeg (ys.map DVisit.cells).flatten (ii * 4) xs[jj].cells = ((ys.set ii xs[jj]).map DVisit.cells).flatten := by
              rw [setSeg_flatten (cellsVisit_len _) (by rw [List.length_map]; have := hyl.out; omega) rfl, ← List.map_set (f := DVisit.cells)]
            rw [← e2]
            exact e
        case measure => simp [intOf]; omega
      · have HK := hid (HI.out.skip hjl d)
        have D := hid d
        clear d
        go_wp2_with (go_at_call 146; refine (HCL.out xs[jj] _ HB2x.out).mono ?_; rintro e w5 ⟨rfl, hb5⟩; rw [D.out]; have O5 := hid (own_below HOx.out hb5); have B5 := hid (below_up HBx.out (by have := HBx.out.size; omega) hb5))
        go_roundw
        case rel => exact ⟨ii, jj + 1, ys, rfl, by go_num, HK.out, O5.out, B5.out⟩
        case measure => simp [intOf]; omega
    · have hj2 := hid (show jj = xs.length by omega)
      have HD := hid (HI.out.done hj2.out)
      have hic : ¬ (ii = c) := by omega
      have hic2 : ¬ (c = ii) := by omega
      have q4 : (ii : Int) ≤ xs.length := by omega
      have q5 : (ii : Int) ≤ c := by omega
      have hzl : ((List.replicate (xs.length - ii) [Value.int .i64 0, Value.string ⟨#[]⟩, Value.int .i64 0, Value.int .i64 0]).flatten).length = (xs.length - ii) * 4 := by simp
      have HZL := hid hzl
      have hcl : ∀ ty, (Builtin.clear_ #[50] ty #[.slice (some ⟨g, ii * 4, none⟩) (xs.length - ii) (c - ii)]).run Try.prog wr = .ok (.tuple #[]) (wr.setCells g (ii * 4) (List.replicate (xs.length - ii) [Value.int .i64 0, Value.string ⟨#[]⟩, Value.int .i64 0, Value.int .i64 0]).flatten) := fun ty =>
        run_clear_rows wr 50 76 ty (.agg #[.int .i64 0, .string ⟨#[]⟩, .int .i64 0, .int .i64 0]) Try.underlying50 (fun _ => by kernel_rfl) g (ii * 4) (xs.length - ii) (c - ii) (by omega) _ (by rw [zeros_Visit]) (fun u hu => by
          obtain ⟨l, hl, hu⟩ := List.mem_flatten.1 hu
          rw [List.eq_of_mem_replicate hl] at hu
          simp only [List.mem_cons, List.not_mem_nil, or_false] at hu
          rcases hu with rfl | rfl | rfl | rfl <;> rfl)
          (fun j hj => by rw [HZL.out] at hj; obtain ⟨u, hu⟩ := own_cell HO.out (q := ii * 4 + j) (by omega); rw [hu]; rfl)
          (fun j _ => HO.out.frozenAt _)
      have HF := hid (own_shrink (own_wsetCells (List.replicate (xs.length - ii) [Value.int .i64 0, Value.string ⟨#[]⟩, Value.int .i64 0, Value.int .i64 0]).flatten (p := ii * 4) HO.out) (m := ii) (by omega))
      have HBF := hid (below_wsetCells hBg (List.replicate (xs.length - ii) [Value.int .i64 0, Value.string ⟨#[]⟩, Value.int .i64 0, Value.int .i64 0]).flatten (p := ii * 4) HB.out)
      clear hzl
      go_wp2_with fail
      go_ret
      have hd2 := HD.out.2
      refine ⟨by rw [← hd2]; first | done | rfl, ?_, HBF.out⟩
      have e := HF.out
      rw [setSeg_head _ _ (show ii * 4 ≤ ii * 4 by omega)] at e
      have e3 : ((ys.map DVisit.cells).flatten).take (ii * 4) = ((xs.filter (fun x => !p x)).map DVisit.cells).flatten := by
        rw [← HD.out.1]
        rw [← take_flat (cellsVisit_len ys), List.map_take]
      rw [e3] at e
      rw [← hd2]
      exact e

/-- the visits of a customer -/
def visF (xs : List DVisit) (who : ByteArray) : List DVisit := xs.filter (fun x => !notOf who x)

set_option maxHeartbeats 1600000 in
set_option maxRecDepth 100000 in
theorem visitsOf_ok (A : Option Addr) (c : Nat) (xs : List DVisit) (who : ByteArray) (w : World) (hA : RowsAt w 4 A (xs.map DVisit.cells)) (hn : xs.length ≤ 100000) (hnone : A = none → c = 0) :
    Calls Try.prog 114 #[.slice A xs.length c, .string who] w fun e w' => (∃ g c', e = .returned (.slice (some ⟨g, 0, none⟩) (visF xs who).length c') ∧ w'.ownsRow w.heap.size 76 4 (.slice (some ⟨g, 0, none⟩) (visF xs who).length c') (visF xs who).length ((visF xs who).map DVisit.cells).flatten) ∧ Below w.heap.size w w' := by
  have HA2 := hid (hA.below (below_alloc w (.cells #[.string who] 9)))
  have HN := hid hnone
  have NC := hid (HasC.new w [.string who] 9)
  have hmf : ∀ (fn : Fn) (first cap : Array Value) (w : World), (Instr.makeFunc fn first cap).run Try.prog w = .ok (.func fn first cap) w := fun _ _ _ _ => rfl
  clear hA hnone
  go_enter Try.func114, Try.ntmps114
  go_wp2_with fail
  refine (cloneVisit_ok A c xs _ HA2.out (by omega) HN.out).mono ?_
  rintro e w1 ⟨g, rfl, ho, hb⟩
  have O1 := hid ho
  have B1 := hid hb
  have NC1 := hid (NC.out.below B1.out)
  have HCLO := hid (show ∀ (x : DVisit) (w' : World), Below (w.heap.size + 1) w1 w' → Calls Try.prog 146 #[.agg #[.int .i64 x.fDay, .string x.fWho, .int .i64 x.fKind, .int .i64 x.fAmount], .pointer (some ⟨w.heap.size, 0, none⟩)] w' fun e w'' => e = .returned (.bool (notOf who x)) ∧ Below w'.heap.size w' w'' from fun x w' hw => visClo_ok x w.heap.size who w' (by have := hw.size; have := NC1.out.1; omega) ((hw.cell (p := ⟨w.heap.size, 0, none⟩) (by show w.heap.size < w.heap.size + 1; omega)).trans (NC1.out.2 0 _ rfl)))
  have hsz : (w.alloc (.cells #[.string who] 9)).heap.size = w.heap.size + 1 := by simp
  have hsz2 : w.heap.size + 1 ≤ w1.heap.size := by have h := hb.size; simp at h; omega
  rw [hsz] at O1 B1
  clear ho hb hsz
  go_wp2_with fail
  refine (delVis_ok g _ (w.heap.size + 1) xs (notOf who) w.heap.size w1 w1 O1.out (Below.refl _ _) hsz2 HCLO.out hn).mono ?_
  rintro e w2 ⟨rfl, ho2, hb2⟩
  go_wp2_with fail
  go_ret
  exact ⟨⟨g, _, rfl, own_mono ho2 (by omega)⟩, (below_alloc w _).trans ((B1.out.trans hb2).mono (by simp))⟩

/-- the day of a customer's last visit; 0 if there is none -/
def lastI (xs : List DVisit) (who : ByteArray) : Int := match (visF xs who).getLast? with | some x => x.fDay | none => 0
theorem visF_le (xs : List DVisit) (who : ByteArray) : (visF xs who).length ≤ xs.length := List.length_filter_le _ _

set_option maxHeartbeats 1600000 in
set_option maxRecDepth 100000 in
theorem lastVisit_ok (A : Option Addr) (c : Nat) (xs : List DVisit) (who : ByteArray) (w : World) (hA : RowsAt w 4 A (xs.map DVisit.cells)) (hok : ∀ x ∈ xs, x.ok) (hn : xs.length ≤ 1048576) (hnone : A = none → c = 0) (hv : visitsB xs = true) :
    Calls Try.prog 50 #[.slice A xs.length c, .string who] w fun e w' => e = .returned (.tuple #[.int .i64 (lastI xs who), .int .i64 (if visF xs who = [] then 3 else 0)]) ∧ Below w.heap.size w w' := by
  have HA := hid hA
  have HK := hid hok
  have HN := hid hnone
  have h32 := (visitsB_iff.1 hv).2
  have hvl := visF_le xs who
  clear hA hok hnone
  cases hnv : visF xs who with
  | nil =>
    have HL := hid (show lastI xs who = 0 by rw [lastI, hnv]; rfl)
    have HNV := hid hnv
    clear hnv
    go_enter Try.func50, Try.ntmps50
    go_wp2_with (first
      | (go_at_call 44; refine (ValidVisits_ok A c xs _ HA.out HK.out hn).mono ?_; rintro e w1 ⟨rfl, hb⟩; have B1 := hid hb; clear hb)
      | (go_at_call 114; refine (visitsOf_ok _ _ xs who _ (HA.out.below B1.out) (by omega) HN.out).mono ?_; rintro e w2 ⟨⟨g2, c2, rfl, ho⟩, hb2⟩; rw [HNV.out]; have B2 := hid (below_trans B1.out hb2); clear hb2 ho))
    go_ret2
    exact ⟨by rw [HL.out]; rfl, B2.out⟩
  | cons y ys =>
    have hne : visF xs who ≠ [] := by rw [hnv]; exact fun h => by cases h
    have hpos : 0 < (visF xs who).length := by rw [hnv]; simp
    obtain ⟨n, hn0⟩ : ∃ n, n = (visF xs who).length := ⟨_, rfl⟩
    have HL := hid (show lastI xs who = ((visF xs who)[(visF xs who).length - 1]'(by omega)).fDay by rw [lastI, List.getLast?_eq_some_getLast hne, List.getLast_eq_getElem])
    have HX := hid (show ∃ x, (visF xs who)[n - 1]? = some x ∧ x.fDay = lastI xs who from ⟨_, List.getElem?_eq_getElem (by omega), by rw [HL.out]; congr 1; simp only [hn0]⟩)
    have HNE := hid hnv
    rw [← hn0] at hpos hvl
    have e2 : IntKind.i64.wrap ((n : Int) - 1) = (n : Int) - 1 := IntWalk.i64_in _ (by omega)
    have e3 : (0 : Int) ≤ (n : Int) - 1 := by omega
    have e4 : ((n : Int) - 1).toNat = n - 1 := by omega
    have e5 : (n : Int) - 1 < n := by omega
    have e6 : (1 : Int) ≤ (n : Int) := by omega
    have e7 : ((n : Int) == 0) = false := by rw [beq_eq_false_iff_ne]; omega
    have HN0 := hid hn0
    clear hnv hne HL hn0
    go_enter Try.func50, Try.ntmps50
    go_wp2_with (first
      | (go_at_call 44; refine (ValidVisits_ok A c xs _ HA.out HK.out hn).mono ?_; rintro e w1 ⟨rfl, hb⟩; have B1 := hid hb; clear hb)
      | (go_at_call 114; refine (visitsOf_ok _ _ xs who _ (HA.out.below B1.out) (by omega) HN.out).mono ?_; rintro e w2 ⟨⟨g2, c2, rfl, ho⟩, hb2⟩; rw [← HN0.out]; have B2 := hid (below_trans B1.out hb2); obtain ⟨x, hx, hxd⟩ := HX.out; have k0 : w2.cell? ⟨g2, (n - 1) * 4, none⟩ = some (.int .i64 x.fDay) := (by rw [ho.cellAt ((n - 1) * 4) (by have := HN0.out; omega)]; exact (flatten_at (j := 0) (cellsVisit_len _) (show ((visF xs who).map DVisit.cells)[n - 1]? = some x.cells by rw [List.getElem?_map, hx]; rfl) (by omega)).trans rfl); have XD := hid hxd; clear hxd hx hb2 ho))
    go_ret2
    exact ⟨by rw [← XD.out]; first | done | rfl, B2.out⟩


/-- the day of the last of the first k visits that is a customer's; -1 if there is none -/
def lastTo (xs : List DVisit) (who : ByteArray) : Nat → Int
  | 0 => -1
  | k + 1 => match xs[k]? with | some x => if (x.fWho.toList == who.toList) = true then x.fDay else lastTo xs who k | none => lastTo xs who k
theorem lastTo_yes {xs : List DVisit} {who : ByteArray} {k : Nat} (h : k < xs.length) (h1 : (xs[k].fWho.toList == who.toList) = true) : lastTo xs who (k + 1) = xs[k].fDay := by simp only [lastTo, List.getElem?_eq_getElem h, h1]; rfl
theorem lastTo_no {xs : List DVisit} {who : ByteArray} {k : Nat} (h : k < xs.length) (h1 : (xs[k].fWho.toList == who.toList) = false) : lastTo xs who (k + 1) = lastTo xs who k := by simp only [lastTo, List.getElem?_eq_getElem h, h1]; rfl
theorem lastTo_vis {xs : List DVisit} {who : ByteArray} : ∀ {k : Nat}, k ≤ xs.length → lastTo xs who k = match (visF (xs.take k) who).getLast? with | some x => x.fDay | none => -1
  | 0, _ => by simp [lastTo, visF]
  | k + 1, hk => by
    have ih := lastTo_vis (xs := xs) (who := who) (k := k) (by omega)
    have e : visF (xs.take (k + 1)) who = visF (xs.take k) who ++ visF [xs[k]] who := by
      unfold visF
      rw [List.take_succ_eq_append_getElem (by omega), List.filter_append]
    cases d : (xs[k].fWho.toList == who.toList)
    · rw [lastTo_no (by omega) d, ih, e, show visF [xs[k]] who = [] by simp [visF, notOf, d], List.append_nil]
    · rw [lastTo_yes (by omega) d, e, show visF [xs[k]] who = [xs[k]] by simp [visF, notOf, d], List.getLast?_append]
      rfl
theorem last_eq {xs : List DVisit} {who : ByteArray} (h : visF xs who ≠ []) : lastTo xs who xs.length = lastI xs who := by
  rw [lastTo_vis (Nat.le_refl _), List.take_of_length_le (Nat.le_refl _), lastI, List.getLast?_eq_some_getLast h]
theorem vis_some {xs : List DVisit} {who : Str} (h : who ∈ setOf (namesN (custN xs) xs.length)) : visF xs (tB who) ≠ [] := by
  rw [setOf_mem, namesN_mem] at h
  obtain ⟨j, hj, hz⟩ := h
  rw [custN_at hj] at hz
  simp only [List.mem_cons, List.not_mem_nil, or_false] at hz
  have hm : xs[j] ∈ visF xs (tB who) := by
    unfold visF
    rw [List.mem_filter]
    refine ⟨List.getElem_mem hj, ?_⟩
    rw [hz, tB_data]
    simp [notOf]
  exact fun e => by rw [e] at hm; cases hm



end Go.Proofs.Ytjeklbhdngkngaa
