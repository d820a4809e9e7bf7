/- MissedCustomers and its reference. -/
import Derived.Test.YtjeklbhdngkngaaVis
namespace Go.Proofs.Ytjeklbhdngkngaa
open Go.RowKit
set_option linter.unusedVariables false

noncomputable def missP (xs : List DVisit) (d gp : Int) (s : Str) : Bool := decide (d - lastI xs (tB s) ≤ gp)
noncomputable def fMiss (xs : List DVisit) (d gp : Int) : List Str × Int := if visitsB xs = false then ([], 1) else if (inB d 0 100000 && inB gp 0 100000) = false then ([], 2) else ((setOf (namesN (custN xs) xs.length)).filter (fun s => !missP xs d gp s), 0)
theorem fMiss_small (xs : List DVisit) (d gp : Int) : (fMiss xs d gp).1.length ≤ 64 := by
  unfold fMiss
  split
  · simp
  · rename_i h1
    split
    · simp
    · have h := visitsB_iff.1 (by simpa using h1)
      have h2 := setOf_len (namesN (custN xs) xs.length)
      have h3 := namesN_len (custN_len xs) xs.length
      have h4 := List.length_filter_le (fun s => !missP xs d gp s) (setOf (namesN (custN xs) xs.length))
      show ((setOf (namesN (custN xs) xs.length)).filter (fun s => !missP xs d gp s)).length ≤ 64
      omega
theorem visD_day {x : DVisit} (h : visitD x = true) : 0 ≤ x.fDay ∧ x.fDay ≤ 100000 := by
  simp only [visitD, visitB, Bool.and_eq_true] at h
  exact inB_iff.1 h.1
theorem lastI_bd {xs : List DVisit} (h : VisitsTo xs xs.length) (who : ByteArray) : 0 ≤ lastI xs who ∧ lastI xs who ≤ 100000 := by
  unfold lastI
  split
  · rename_i x hx
    have hm : x ∈ visF xs who := List.mem_of_getLast? hx
    unfold visF at hm
    obtain ⟨j, hj, rfl⟩ := List.mem_iff_getElem.1 (List.mem_filter.1 hm).1
    exact visD_day (h j hj hj).1
  · omega

set_option maxHeartbeats 1600000 in
set_option maxRecDepth 100000 in
theorem missClo_ok (A : Option Addr) (c : Nat) (xs : List DVisit) (d gp : Int) (b3 b4 b5 : Nat) (s : Str) (w : World) (hA : RowsAt w 4 A (xs.map DVisit.cells)) (hok : ∀ x ∈ xs, x.ok) (hn : xs.length ≤ 1048576) (hnone : A = none → c = 0) (hv : visitsB xs = true) (l3 : b3 < w.heap.size) (l4 : b4 < w.heap.size) (l5 : b5 < w.heap.size) (k3 : w.cell? ⟨b3, 0, none⟩ = some (.slice A xs.length c)) (k4 : w.cell? ⟨b4, 0, none⟩ = some (.int .i64 d)) (k5 : w.cell? ⟨b5, 0, none⟩ = some (.int .i64 gp)) (hd : 0 ≤ d ∧ d ≤ 100000) (hg : 0 ≤ gp ∧ gp ≤ 100000) :
    Calls Try.prog 113 #[.string (tB s), .pointer (some ⟨b3, 0, none⟩), .pointer (some ⟨b4, 0, none⟩), .pointer (some ⟨b5, 0, none⟩)] w fun e w' => e = .returned (.bool (missP xs d gp s)) ∧ Below w.heap.size w w' := by
  have HA := hid hA
  have HK := hid hok
  have HN := hid hnone
  have HV := hid hv
  have HK4 := hid k4
  have HK5 := hid k5
  have bl := lastI_bd (visitsB_iff.1 hv).1 (tB s)
  obtain ⟨L, hL⟩ : ∃ L, L = lastI xs (tB s) := ⟨_, rfl⟩
  have HM := hid (show missP xs d gp s = decide (d - L ≤ gp) by rw [hL]; rfl)
  rw [← hL] at bl
  have HL := hid hL
  have w1' : IntKind.i64.wrap (d - L) = d - L := IntWalk.i64_in _ (by omega)
  obtain ⟨hd0, hd1⟩ := hd
  obtain ⟨hg0, hg1⟩ := hg
  obtain ⟨bl0, bl1⟩ := bl
  clear hA hok hnone hv k4 k5 hL
  go_enter Try.func113, Try.ntmps113
  go_wp2_with (go_at_call 50; refine (lastVisit_ok A c xs (tB s) _ HA.out HK.out hn HN.out HV.out).mono ?_; rintro e w1 ⟨rfl, hb⟩; rw [← HL.out]; have g4 := (hb.cell (p := ⟨b4, 0, none⟩) l4).trans HK4.out; have g5 := (hb.cell (p := ⟨b5, 0, none⟩) l5).trans HK5.out; have B1 := hid hb; clear hb)
  all_goals
    go_ret
    exact ⟨ret_bool (by rw [HM.out]), B1.out⟩

set_option maxHeartbeats 1600000 in
set_option maxRecDepth 100000 in
theorem idxMis_ok (g c B : Nat) (xs : List Str) (p : Str → Bool) (b3 : Nat) (b4 : Nat) (b5 : Nat) (w0 w : World) (hown : w.ownsRow B 9 1 (.slice (some ⟨g, 0, none⟩) xs.length c) xs.length (xs.map vS)) (hw : Below B w0 w) (hB : B ≤ w.heap.size) (hclo : ∀ (x : Str) (w' : World), Below B w0 w' → Calls Try.prog 113 #[.string (tB x), .pointer (some ⟨b3, 0, none⟩), .pointer (some ⟨b4, 0, none⟩), .pointer (some ⟨b5, 0, none⟩)] w' fun e w'' => e = .returned (.bool (p x)) ∧ Below w'.heap.size w' w'') (hn : xs.length ≤ 100000) :
    Calls Try.prog 144 #[.slice (some ⟨g, 0, none⟩) xs.length c, .func (.func 113) #[] #[.pointer (some ⟨b3, 0, none⟩), .pointer (some ⟨b4, 0, none⟩), .pointer (some ⟨b5, 0, none⟩)]] w fun e w' => (∃ r : Int, e = .returned (.int .i64 r) ∧ ((r = -1 ∧ ∀ j (h : j < xs.length), p xs[j] = false) ∨ (∃ i : Nat, r = (i : Int) ∧ ∃ hi : i < xs.length, (∀ j (h : j < xs.length), j < i → p xs[j] = false) ∧ p xs[i] = true))) ∧ Below w.heap.size w w' := by
  have HO0 := hid hown
  have HW := hid hw
  have HCL := hid hclo
  clear hown hw hclo
  go_enter Try.func144, Try.ntmps144
  go_wp2_with fail
  go_loopw [8] (fun i wr => ∃ k : Nat, k ≤ xs.length ∧ i = .int .i64 k ∧ (∀ j (h : j < xs.length), j < k → p xs[j] = false) ∧ Below w.heap.size w wr) (fun i _ => xs.length - (intOf i).toNat)
  case atStart => exact ⟨0, Nat.zero_le _, rfl, fun _ _ h => absurd h (by omega), Below.refl _ _⟩
  case round =>
    obtain ⟨k, hk, rfl, hall, hbel⟩ := hrel
    have HL := hid hall
    have HB := hid hbel
    clear hall hbel
    by_cases hkl : k < xs.length
    · have HO := hid (own_below HO0.out HB.out)
      have k0 : wr.cell? ⟨g, k, none⟩ = some (.string (tB xs[k])) := by
        rw [HO.out.cellAt k (by omega), List.getElem?_map, List.getElem?_eq_getElem hkl]
        rfl
      have q0 : (0 : Int) ≤ (k : Int) := by omega
      have q1 : (k : Int) < xs.length := by omega
      have HB2 := hid (below_up HW.out hB HB.out)
      cases d : p xs[k]
      · have HS := hid (show ∀ j (h : j < xs.length), j < k + 1 → p xs[j] = false from fun j h hj => by
          rcases Nat.lt_or_ge j k with h3 | h3
          · exact HL.out j h h3
          · have e : j = k := by omega
            subst e; exact d)
        have D := hid d
        clear d
        go_wp2_with (go_at_call 113; refine (HCL.out xs[k] _ HB2.out).mono ?_; rintro e w5 ⟨rfl, hb5⟩; rw [D.out])
        go_roundw
        case rel => exact ⟨k + 1, by omega, by go_num, HS.out, below_trans HB.out hb5⟩
        case measure => simp [intOf]; omega
      · have D := hid d
        clear d
        go_wp2_with (go_at_call 113; refine (HCL.out xs[k] _ HB2.out).mono ?_; rintro e w5 ⟨rfl, hb5⟩; rw [D.out])
        go_ret
        exact ⟨⟨_, rfl, .inr ⟨k, rfl, hkl, HL.out, D.out⟩⟩, below_trans HB.out hb5⟩
    · go_wp2_with fail
      go_ret
      exact ⟨⟨_, rfl, .inl ⟨rfl, fun j h => HL.out j h (by omega)⟩⟩, HB.out⟩

set_option maxHeartbeats 1600000 in
set_option maxRecDepth 100000 in
theorem delMis_ok (g c B : Nat) (xs : List Str) (p : Str → Bool) (b3 : Nat) (b4 : Nat) (b5 : Nat) (w0 w : World) (hown : w.ownsRow B 9 1 (.slice (some ⟨g, 0, none⟩) xs.length c) xs.length (xs.map vS)) (hw : Below B w0 w) (hB : B ≤ w.heap.size) (hclo : ∀ (x : Str) (w' : World), Below B w0 w' → Calls Try.prog 113 #[.string (tB x), .pointer (some ⟨b3, 0, none⟩), .pointer (some ⟨b4, 0, none⟩), .pointer (some ⟨b5, 0, none⟩)] w' fun e w'' => e = .returned (.bool (p x)) ∧ Below w'.heap.size w' w'') (hn : xs.length ≤ 100000) :
    Calls Try.prog 112 #[.slice (some ⟨g, 0, none⟩) xs.length c, .func (.func 113) #[] #[.pointer (some ⟨b3, 0, none⟩), .pointer (some ⟨b4, 0, none⟩), .pointer (some ⟨b5, 0, none⟩)]] w fun e w' => e = .returned (.slice (some ⟨g, 0, none⟩) (xs.filter (fun x => !p x)).length c) ∧ w'.ownsRow B 9 1 (.slice (some ⟨g, 0, none⟩) (xs.filter (fun x => !p x)).length c) (xs.filter (fun x => !p x)).length ((xs.filter (fun x => !p x)).map vS) ∧ Below B w w' := by
  obtain ⟨hlc, hcm, hBg, hg⟩ := own_cap hown
  have hc3 : c ≤ 9223372036854775807 := by unfold maxLen at hcm; omega
  have HO0 := hid hown
  have HW := hid hw
  have HCL := hid hclo
  clear hown hw hclo hcm
  go_enter Try.func112, Try.ntmps112
  go_wp2_with fail
  refine (idxMis_ok g c B xs p b3 b4 b5 w0 w HO0.out HW.out hB HCL.out hn).mono ?_
  rintro e w1 ⟨⟨r, rfl, hr⟩, hb⟩
  have B1 := hid hb
  clear hb
  rcases hr with ⟨rfl, hall⟩ | ⟨i0, rfl, hi, hpre, hp⟩
  · have HFL := hid (filter_all hall)
    clear hall
    go_wp2_with fail
    go_ret
    exact ⟨by rw [HFL.out]; first | done | rfl, by rw [HFL.out]; exact own_below HO0.out B1.out, B1.out.mono hB⟩
  have HI0 := hid (DelInv.start hi hpre hp)
  have e1 : ((i0 : Int) == -1) = false := by rw [beq_eq_false_iff_ne]; omega
  clear hpre hp
  go_wp2_with fail
  go_loopw [5, 6] (fun vi vj wr => ∃ (ii jj : Nat) (ys : List Str), vi = .int .i64 ii ∧ vj = .int .i64 jj ∧ DelInv p xs ys jj ii ∧ wr.ownsRow B 9 1 (.slice (some ⟨g, 0, none⟩) xs.length c) xs.length (ys.map vS) ∧ Below B w wr) (fun _ vj _ => xs.length - (intOf vj).toNat)
  case atStart => exact ⟨i0, i0 + 1, xs, rfl, by go_num, HI0.out, own_below HO0.out B1.out, B1.out.mono hB⟩
  case round =>
    obtain ⟨ii, jj, ys, rfl, rfl, hinv, hown, hbel⟩ := hrel
    have HI := hid hinv
    have HO := hid hown
    have HB := hid hbel
    have hBw : B ≤ wr.heap.size := by have := hbel.size; omega
    have hij := hinv.le
    have hjx := hinv.jle
    have hyl := hid hinv.len
    clear hinv hown hbel
    have q0 : (0 : Int) ≤ (jj : Int) := by omega
    have q2 : (0 : Int) ≤ (ii : Int) := by omega
    have q3 : (ii : Int) < xs.length := by omega
    by_cases hjl : jj < xs.length
    · have q1 : (jj : Int) < xs.length := by omega
      have HY := hid (HI.out.at hjl)
      have k0 : wr.cell? ⟨g, jj, none⟩ = some (.string (tB xs[jj])) := by
        rw [HO.out.cellAt jj (by omega), List.getElem?_map, HY.out]
        rfl
      have HB2 := hid (HW.out.trans HB.out)
      cases d : p xs[jj]
      · have HK := hid (HI.out.keep hjl d)
        have D := hid d
        clear d
        go_wp2_with (go_at_call 113; refine (HCL.out xs[jj] _ HB2.out).mono ?_; rintro e w5 ⟨rfl, hb5⟩; rw [D.out]; have O5 := hid (own_below HO.out hb5); obtain ⟨u0, hold0⟩ := own_cell O5.out (q := ii) (by omega); have hfr0 := O5.out.frozenAt ii; have HS := hid (O5.out.stored ii (.string (tB xs[jj]))).1; have B5 := hid (below_up HB.out hBw hb5); clear hb5)
        go_roundw
        case rel =>
          refine ⟨ii + 1, jj + 1, ys.set ii xs[jj], by go_num, by go_num, HK.out, ?_, (B5.out.setCell (p := ⟨g, ii, none⟩) hBg _)⟩
          · have e := HS.out
            rw [show Value.string (tB xs[jj]) = vS xs[jj] from rfl, ← List.map_set (f := vS)] at e
            exact e
        case measure => simp [intOf]; omega
      · have HK := hid (HI.out.skip hjl d)
        have D := hid d
        clear d
        go_wp2_with (go_at_call 113; refine (HCL.out xs[jj] _ HB2.out).mono ?_; rintro e w5 ⟨rfl, hb5⟩; rw [D.out]; have O5 := hid (own_below HO.out hb5); have B5 := hid (below_up HB.out hBw hb5))
        go_roundw
        case rel => exact ⟨ii, jj + 1, ys, rfl, by go_num, HK.out, O5.out, B5.out⟩
        case measure => simp [intOf]; omega
    · have hj2 := hid (show jj = xs.length by omega)
      have HD := hid (HI.out.done hj2.out)
      have hic : ¬ (ii = c) := by omega
      have hic2 : ¬ (c = ii) := by omega
      have q4 : (ii : Int) ≤ xs.length := by omega
      have q5 : (ii : Int) ≤ c := by omega
      have hzl : ((List.replicate (xs.length - ii) (Value.string ⟨#[]⟩))).length = (xs.length - ii) * 1 := by simp
      have HZL := hid hzl
      have hcl : ∀ ty, (Builtin.clear_ #[57] ty #[.slice (some ⟨g, ii, none⟩) (xs.length - ii) (c - ii)]).run Try.prog wr = .ok (.tuple #[]) (wr.setCells g (ii) (List.replicate (xs.length - ii) (Value.string ⟨#[]⟩))) := fun ty =>
        run_clear_rows wr 57 9 ty (Value.string ⟨#[]⟩) Try.underlying57 (fun _ => by kernel_rfl) g (ii) (xs.length - ii) (c - ii) (by omega) _ (by rw [zeros_str]) (fun u hu => by
          rw [List.eq_of_mem_replicate hu]; rfl)
          (fun j hj => by rw [HZL.out] at hj; obtain ⟨u, hu⟩ := own_cell HO.out (q := ii + j) (by omega); rw [hu]; rfl)
          (fun j _ => HO.out.frozenAt _)
      have HF := hid (own_shrink (own_wsetCells (List.replicate (xs.length - ii) (Value.string ⟨#[]⟩)) (p := ii) HO.out) (m := ii) (by omega))
      have HBF := hid (below_wsetCells hBg (List.replicate (xs.length - ii) (Value.string ⟨#[]⟩)) (p := ii) HB.out)
      clear hzl
      go_wp2_with fail
      go_ret
      have hd2 := HD.out.2
      refine ⟨by rw [← hd2]; first | done | rfl, ?_, HBF.out⟩
      have e := HF.out
      rw [setSeg_head _ _ (show ii * 1 ≤ ii by omega)] at e
      have e3 : ((ys.map vS)).take (ii * 1) = ((xs.filter (fun x => !p x)).map vS) := by
        rw [← HD.out.1]
        rw [Nat.mul_one, List.map_take]
      rw [e3] at e
      rw [← hd2]
      exact e

set_option maxHeartbeats 1600000 in
set_option maxRecDepth 100000 in
theorem implMissC_ok (A : Option Addr) (c : Nat) (hnone : A = none → c = 0) (xs : List DVisit) (d gp : Int) (w : World) (hA : RowsAt w 4 A (xs.map DVisit.cells)) (hok : ∀ x ∈ xs, x.ok) (hn : xs.length ≤ 1048576) :
    Calls Try.prog 47 #[.slice A xs.length c, .int .i64 d, .int .i64 gp] w (RetSC w (fMiss xs d gp)) := by
  have HK := hid hok
  have HNO := hid hnone
  clear hnone
  have N3 := hid (((HasC.new w [.slice A xs.length c] 50).below (below_alloc _ (.cells #[.int .i64 d] 2))).below (below_alloc _ (.cells #[.int .i64 gp] 2)))
  have N4 := hid ((HasC.new (w.alloc (.cells #[.slice A xs.length c] 50)) [.int .i64 d] 2).below (below_alloc _ (.cells #[.int .i64 gp] 2)))
  have N5 := hid (HasC.new ((w.alloc (.cells #[.slice A xs.length c] 50)).alloc (.cells #[.int .i64 d] 2)) [.int .i64 gp] 2)
  have HA3 := hid (((hA.below (below_alloc w (.cells #[.slice A xs.length c] 50))).below (below_alloc _ (.cells #[.int .i64 d] 2))).below (below_alloc _ (.cells #[.int .i64 gp] 2)))
  have B3 := hid (((below_alloc w (.cells #[.slice A xs.length c] 50)).trans ((below_alloc _ (.cells #[.int .i64 d] 2)).mono (by simp))).trans ((below_alloc _ (.cells #[.int .i64 gp] 2)).mono (by simp; omega)))
  have hs1 : (w.alloc (.cells #[.slice A xs.length c] 50)).heap.size = w.heap.size + 1 := by simp
  have hs2 : ((w.alloc (.cells #[.slice A xs.length c] 50)).alloc (.cells #[.int .i64 d] 2)).heap.size = w.heap.size + 1 + 1 := by simp
  rw [hs1] at N4
  rw [hs2] at N5
  have n3 := N3.out.2 0 _ rfl
  have n4 := N4.out.2 0 _ rfl
  have n5 := N5.out.2 0 _ rfl
  have hmf : ∀ (fn : Fn) (first cap : Array Value) (w : World), (Instr.makeFunc fn first cap).run Try.prog w = .ok (.func fn first cap) w := fun _ _ _ _ => rfl
  clear hA hok hs1 hs2
  cases c1 : visitsB xs
  · have HF := hid (show fMiss xs d gp = ([], 1) by unfold fMiss; rw [if_pos c1])
    go_enter Try.func47, Try.ntmps47
    go_wp2_with (go_at_call 44; refine (ValidVisits_ok _ _ xs _ HA3.out HK.out hn).mono ?_; rintro e w1 ⟨rfl, hb⟩; have B1 := hid hb; have g4 := (hb.cell (p := ⟨w.heap.size + 1, 0, none⟩) N4.out.1).trans (N4.out.2 0 _ rfl); have g5 := (hb.cell (p := ⟨w.heap.size + 1 + 1, 0, none⟩) N5.out.1).trans (N5.out.2 0 _ rfl); have g3 := (hb.cell (p := ⟨w.heap.size, 0, none⟩) N3.out.1).trans (N3.out.2 0 _ rfl); clear hb)
    go_ret2
    exact RetSC.nil HF.out (below_up B3.out B3.out.size B1.out)
  cases c2 : inB d 0 100000
  · have HF := hid (show fMiss xs d gp = ([], 2) by unfold fMiss; rw [if_neg (by rw [c1]; exact fun h => by cases h), if_pos (by rw [c2]; rfl)])
    go_enter Try.func47, Try.ntmps47
    go_wp2_with (first | (go_at_call 111; refine (isRentDay_ok _ _).mono ?_; rintro e w' ⟨rfl, rfl⟩) | (go_at_call 44; refine (ValidVisits_ok _ _ xs _ HA3.out HK.out hn).mono ?_; rintro e w1 ⟨rfl, hb⟩; have B1 := hid hb; have g4 := (hb.cell (p := ⟨w.heap.size + 1, 0, none⟩) N4.out.1).trans (N4.out.2 0 _ rfl); have g5 := (hb.cell (p := ⟨w.heap.size + 1 + 1, 0, none⟩) N5.out.1).trans (N5.out.2 0 _ rfl); have g3 := (hb.cell (p := ⟨w.heap.size, 0, none⟩) N3.out.1).trans (N3.out.2 0 _ rfl); clear hb))
    go_ret2
    exact RetSC.nil HF.out (below_up B3.out B3.out.size B1.out)
  cases c3 : inB gp 0 100000
  · have HF := hid (show fMiss xs d gp = ([], 2) by unfold fMiss; rw [if_neg (by rw [c1]; exact fun h => by cases h), if_pos (by rw [c2, c3]; rfl)])
    go_enter Try.func47, Try.ntmps47
    go_wp2_with (first | (go_at_call 111; refine (isRentDay_ok _ _).mono ?_; rintro e w' ⟨rfl, rfl⟩) | (go_at_call 44; refine (ValidVisits_ok _ _ xs _ HA3.out HK.out hn).mono ?_; rintro e w1 ⟨rfl, hb⟩; have B1 := hid hb; have g4 := (hb.cell (p := ⟨w.heap.size + 1, 0, none⟩) N4.out.1).trans (N4.out.2 0 _ rfl); have g5 := (hb.cell (p := ⟨w.heap.size + 1 + 1, 0, none⟩) N5.out.1).trans (N5.out.2 0 _ rfl); have g3 := (hb.cell (p := ⟨w.heap.size, 0, none⟩) N3.out.1).trans (N3.out.2 0 _ rfl); clear hb))
    go_ret2
    exact RetSC.nil HF.out (below_up B3.out B3.out.size B1.out)
  have HF := hid (show fMiss xs d gp = ((setOf (namesN (custN xs) xs.length)).filter (fun s => !missP xs d gp s), 0) by unfold fMiss; rw [if_neg (by rw [c1]; exact fun h => by cases h), if_neg (by rw [c2, c3]; exact fun h => by cases h)])
  have h32 := (visitsB_iff.1 c1).2
  have hd := hid (inB_iff.1 c2)
  have hg := hid (inB_iff.1 c3)
  have HV := hid c1
  have hsl := setOf_len (namesN (custN xs) xs.length)
  have hnl := namesN_len (custN_len xs) xs.length
  have HSL := hid (show (setOf (namesN (custN xs) xs.length)).length ≤ 100000 by omega)
  obtain ⟨F, hF⟩ : ∃ F, F = setOf (namesN (custN xs) xs.length) := ⟨_, rfl⟩
  rw [← hF] at HF HSL
  have HFF := hid hF
  clear hsl hnl hF
  go_enter Try.func47, Try.ntmps47
  go_wp2_with (first
    | (go_at_call 112; refine (delMis_ok gc cc w1.heap.size F (missP xs d gp) w.heap.size (w.heap.size + 1) (w.heap.size + 1 + 1) w1 w2 OC.out BC.out BC.out.size HCLO.out HSL.out).mono ?_; rintro e w3 ⟨rfl, ho3, hb3⟩)
    | (go_at_call 111; refine (isRentDay_ok _ _).mono ?_; rintro e w' ⟨rfl, rfl⟩)
    | (go_at_call 103; refine (customers_ok _ _ xs _ (HA3.out.below B1.out) (by omega)).mono ?_; rintro e w2 ⟨⟨gc, cc, rfl, hoc⟩, hbc⟩; rw [← HFF.out] at hoc; rw [← HFF.out]; have OC := hid hoc; have BC := hid hbc; clear hoc hbc; have HCLO := hid (show ∀ (x : Str) (w' : World), Below w1.heap.size w1 w' → Calls Try.prog 113 #[.string (tB x), .pointer (some ⟨w.heap.size, 0, none⟩), .pointer (some ⟨w.heap.size + 1, 0, none⟩), .pointer (some ⟨w.heap.size + 1 + 1, 0, none⟩)] w' fun e w'' => e = .returned (.bool (missP xs d gp x)) ∧ Below w'.heap.size w' w'' from fun x w' hw => missClo_ok _ _ xs d gp w.heap.size (w.heap.size + 1) (w.heap.size + 1 + 1) x w' ((HA3.out.below B1.out).below hw) HK.out hn HNO.out HV.out (Nat.lt_of_lt_of_le (Nat.lt_of_lt_of_le N3.out.1 B1.out.size) hw.size) (Nat.lt_of_lt_of_le (Nat.lt_of_lt_of_le N4.out.1 B1.out.size) hw.size) (Nat.lt_of_lt_of_le (Nat.lt_of_lt_of_le N5.out.1 B1.out.size) hw.size) (((N3.out.below B1.out).below hw).2 0 _ rfl) (((N4.out.below B1.out).below hw).2 0 _ rfl) (((N5.out.below B1.out).below hw).2 0 _ rfl) hd.out hg.out))
    | (go_at_call 44; refine (ValidVisits_ok _ _ xs _ HA3.out HK.out hn).mono ?_; rintro e w1 ⟨rfl, hb⟩; have B1 := hid hb; have g4 := (hb.cell (p := ⟨w.heap.size + 1, 0, none⟩) N4.out.1).trans (N4.out.2 0 _ rfl); have g5 := (hb.cell (p := ⟨w.heap.size + 1 + 1, 0, none⟩) N5.out.1).trans (N5.out.2 0 _ rfl); have g3 := (hb.cell (p := ⟨w.heap.size, 0, none⟩) N3.out.1).trans (N3.out.2 0 _ rfl); clear hb))
  go_ret2
  exact RetSC.own HF.out (own_mono ho3 (by have := B3.out.size; have := B1.out.size; omega)) (below_up (below_up B3.out B3.out.size B1.out) (by have := B3.out.size; have := B1.out.size; omega) (BC.out.trans hb3))

theorem implMiss_ok (g : Nat) (xs : List DVisit) (d gp : Int) (w : World) (hA : RowsAt w 4 (some ⟨g, 0, none⟩) (xs.map DVisit.cells)) (hok : ∀ x ∈ xs, x.ok) (hn : xs.length ≤ 1048576) :
    Calls Try.prog 47 #[.slice (some ⟨g, 0, none⟩) xs.length xs.length, .int .i64 d, .int .i64 gp] w (RetSC w (fMiss xs d gp)) := implMissC_ok (some ⟨g, 0, none⟩) xs.length (fun h => by cases h) xs d gp w hA hok hn

end Go.Proofs.Ytjeklbhdngkngaa
