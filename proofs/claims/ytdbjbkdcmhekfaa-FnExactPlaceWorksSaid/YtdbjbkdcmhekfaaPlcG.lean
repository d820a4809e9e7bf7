/- PlaceWorks: days of a row tested and given away. -/
import Derived.Test.YtdbjbkdcmhekfaaPlcR
namespace Go.Proofs.Ytdbjbkdcmhekfaa
open Go.RowKit
set_option linter.unusedVariables false


set_option maxHeartbeats 1600000 in
set_option maxRecDepth 100000 in
theorem free_ok (g : Nat) (r : List Int) (f n : Nat) (w : World) (ho : w.ownsRow g 2 1 (gV g) 40 (iVP r)) (hf : f ≤ 1000) (hn : n ≤ 40) (hn1 : 1 ≤ n) :
    Calls Try.prog 147 #[gV g, .int .i64 (f : Int), .int .i64 (n : Int)] w fun e w' => e = .returned (.bool (freeB r f n)) ∧ w = w' := by
  have HO := hid ho
  have HL := hid (show r.length = 40 by have := ho.1; simpa [iVP] using this)
  clear ho
  unfold gV at *
  by_cases h40 : f + n ≤ 40
  · have d1 : ¬ (40 : Int) < (f : Int) + (n : Int) := by omega
    have p0 : (0 : Int) ≤ (f : Int) := by omega
    have p1 : (f : Int) ≤ (f : Int) + (n : Int) := by omega
    have p2 : (f : Int) + (n : Int) ≤ 40 := by omega
    have p3 : f < 40 := by omega
    have p4 : (f : Int) < 40 := by omega
    have p5 : ¬ 40 - f = 0 := by omega
    have p6 : ¬ 40 = f := by omega
    have p7 : ¬ f = 40 := by omega
    have e2 : ((f : Int) + (n : Int)).toNat - f = n := by omega
    have e3 : ((f : Int) + (n : Int) - (f : Int)).toNat = n := by omega
    have e4 : ((f : Int) + (n : Int)).toNat = f + n := by omega
    have e5 : f + n - f = n := by omega
    go_enter Try.func147, Try.ntmps147
    go_wp2_with fail
    go_loop [20] (fun i => ∃ k : Nat, k ≤ n ∧ i = .int .i64 (k : Int) ∧ FreeTo r f k) (fun i => n - (intOf i).toNat)
    case atStart => exact ⟨0, Nat.zero_le _, rfl, FreeTo.zero _ _⟩
    case round =>
      obtain ⟨k, hk, rfl, hall⟩ := hrel
      have HF := hid hall
      clear hall
      by_cases hkl : k < n
      · obtain ⟨z, hz⟩ : ∃ z, r[f + k]? = some z := ⟨_, List.getElem?_eq_getElem (by have := HL.out; omega)⟩
        have hc : w.cell? ⟨g, f + k, none⟩ = some (.int .i64 z) := by rw [HO.out.cellAt (f + k) (by omega), iVP, List.getElem?_map, hz]; rfl
        have q0 : (0 : Int) ≤ (k : Int) := by omega
        have q1 : (k : Int) < (n : Int) := by omega
        have q2 : (0 : Int) ≤ (f : Int) + (k : Int) := by omega
        have q3 : (f : Int) + (k : Int) < 40 := by omega
        have q4 : (f : Int) + (k : Int) < (f : Int) + (n : Int) := by omega
        have e6 : ((f : Int) + (k : Int)).toNat = f + k := by omega
        by_cases hz0 : z = 0
        · have HS := hid (HF.out.succ (by rw [hz, hz0]))
          subst hz0
          clear hz
          go_wp2_with fail
          go_round
          case rel => exact ⟨k + 1, by omega, by go_num, HS.out⟩
          case measure => simp [intOf]; omega
        · have HN := hid (freeB_false (r := r) (f := f) (n := n) (fun h => hz0 (by have := h.2 k hkl; rw [hz] at this; injection this)))
          have dz : (z == 0) = false := by rw [beq_eq_false_iff_ne]; exact hz0
          clear hz
          go_wp2_with fail
          go_ret
          exact ⟨ret_bool HN.out.symm, rfl⟩
      · have hk2 : k = n := by omega
        subst hk2
        have HN := hid (freeB_iff.2 ⟨h40, HF.out⟩)
        go_wp2_with fail
        go_ret
        exact ⟨ret_bool HN.out.symm, rfl⟩
  · have d1 : (40 : Int) < (f : Int) + (n : Int) := by omega
    have HN := hid (freeB_false (r := r) (f := f) (n := n) (fun h => h40 h.1))
    go_enter Try.func147, Try.ntmps147
    go_wp2_with fail
    go_ret
    exact ⟨ret_bool HN.out.symm, rfl⟩

set_option maxHeartbeats 1600000 in
set_option maxRecDepth 100000 in
theorem l18Free_ok (g : Nat) (r : List Int) (f n : Nat) (w : World) (ho : w.ownsRow g 2 1 (gV g) 40 (iVP r)) (hf : f ≤ 1000) (hn : n ≤ 40) (hn1 : 1 ≤ n) :
    Calls Try.prog 178 #[gV g, .int .i64 (f : Int), .int .i64 (n : Int)] w fun e w' => e = .returned (.bool (freeB r f n)) ∧ w = w' := by
  have HO := hid ho
  have HL := hid (show r.length = 40 by have := ho.1; simpa [iVP] using this)
  clear ho
  unfold gV at *
  by_cases h40 : f + n ≤ 40
  · have d1 : ¬ (40 : Int) < (f : Int) + (n : Int) := by omega
    have p0 : (0 : Int) ≤ (f : Int) := by omega
    have p1 : (f : Int) ≤ (f : Int) + (n : Int) := by omega
    have p2 : (f : Int) + (n : Int) ≤ 40 := by omega
    have p3 : f < 40 := by omega
    have p4 : (f : Int) < 40 := by omega
    have p5 : ¬ 40 - f = 0 := by omega
    have p6 : ¬ 40 = f := by omega
    have p7 : ¬ f = 40 := by omega
    have e2 : ((f : Int) + (n : Int)).toNat - f = n := by omega
    have e3 : ((f : Int) + (n : Int) - (f : Int)).toNat = n := by omega
    have e4 : ((f : Int) + (n : Int)).toNat = f + n := by omega
    have e5 : f + n - f = n := by omega
    go_enter Try.func178, Try.ntmps178
    go_wp2_with fail
    go_loop [7] (fun i => ∃ k : Nat, k ≤ n ∧ i = .int .i64 ((f : Int) + (k : Int)) ∧ FreeTo r f k) (fun i => f + n - (intOf i).toNat)
    case atStart => exact ⟨0, Nat.zero_le _, by simp, FreeTo.zero _ _⟩
    case round =>
      obtain ⟨k, hk, rfl, hall⟩ := hrel
      have HF := hid hall
      clear hall
      by_cases hkl : k < n
      · obtain ⟨z, hz⟩ : ∃ z, r[f + k]? = some z := ⟨_, List.getElem?_eq_getElem (by have := HL.out; omega)⟩
        have hc : w.cell? ⟨g, f + k, none⟩ = some (.int .i64 z) := by rw [HO.out.cellAt (f + k) (by omega), iVP, List.getElem?_map, hz]; rfl
        have q0 : (0 : Int) ≤ (k : Int) := by omega
        have q1 : (k : Int) < (n : Int) := by omega
        have q2 : (0 : Int) ≤ (f : Int) + (k : Int) := by omega
        have q3 : (f : Int) + (k : Int) < 40 := by omega
        have q4 : (f : Int) + (k : Int) < (f : Int) + (n : Int) := by omega
        have e6 : ((f : Int) + (k : Int)).toNat = f + k := by omega
        by_cases hz0 : z = 0
        · have HS := hid (HF.out.succ (by rw [hz, hz0]))
          subst hz0
          clear hz
          go_wp2_with fail
          go_round
          case rel => exact ⟨k + 1, by omega, by go_num, HS.out⟩
          case measure => simp [intOf]; omega
        · have HN := hid (freeB_false (r := r) (f := f) (n := n) (fun h => hz0 (by have := h.2 k hkl; rw [hz] at this; injection this)))
          have dz : (z == 0) = false := by rw [beq_eq_false_iff_ne]; exact hz0
          clear hz
          go_wp2_with fail
          go_ret
          exact ⟨ret_bool HN.out.symm, rfl⟩
      · have hk2 : k = n := by omega
        subst hk2
        have HN := hid (freeB_iff.2 ⟨h40, HF.out⟩)
        go_wp2_with fail
        go_ret
        exact ⟨ret_bool HN.out.symm, rfl⟩
  · have d1 : (40 : Int) < (f : Int) + (n : Int) := by omega
    have HN := hid (freeB_false (r := r) (f := f) (n := n) (fun h => h40 h.1))
    go_enter Try.func178, Try.ntmps178
    go_wp2_with fail
    go_ret
    exact ⟨ret_bool HN.out.symm, rfl⟩

set_option maxHeartbeats 1600000 in
set_option maxRecDepth 100000 in
theorem fill_ok (g : Nat) (r : List Int) (f n : Nat) (v : Int) (w : World) (ho : w.ownsRow g 2 1 (gV g) 40 (iVP r)) (hf : f + n ≤ 40) :
    Calls Try.prog 148 #[gV g, .int .i64 (f : Int), .int .i64 (n : Int), .int .i64 v] w fun e w' => e = .returned (.tuple #[]) ∧ w'.ownsRow g 2 1 (gV g) 40 (iVP (fillT r f v n)) ∧ Chg g (g + 1) w w' := by
  have HO0 := hid ho
  clear ho
  unfold gV at *
  go_enter Try.func148, Try.ntmps148
  go_wp2_with fail
  go_loopw [8] (fun i wr => ∃ k : Nat, k ≤ n ∧ i = .int .i64 ((f : Int) + (k : Int)) ∧ wr.ownsRow g 2 1 (.slice (some ⟨g, 0, none⟩) 40 40) 40 (iVP (fillT r f v k)) ∧ Chg g (g + 1) w wr) (fun i _ => f + n - (intOf i).toNat)
  case atStart => exact ⟨0, Nat.zero_le _, by simp, HO0.out, Chg.refl _ _ _⟩
  case round =>
    obtain ⟨k, hk, rfl, hown, hq⟩ := hrel
    have HO := hid hown
    have HQ := hid hq
    clear hown hq
    by_cases hkl : k < n
    · have q0 : (0 : Int) ≤ (f : Int) + (k : Int) := by omega
      have q1 : (f : Int) + (k : Int) < 40 := by omega
      have q2 : (f : Int) + (k : Int) < (f : Int) + (n : Int) := by omega
      have e1 : ((f : Int) + (k : Int)).toNat = f + k := by omega
      obtain ⟨u, hold⟩ := own_cell HO.out (q := f + k) (by omega)
      have hfr := HO.out.frozenAt (f + k)
      have HN := hid (show (wr.setCell ⟨g, f + k, none⟩ (.int .i64 v)).ownsRow g 2 1 (.slice (some ⟨g, 0, none⟩) 40 40) 40 (iVP (fillT r f v (k + 1))) by
        have h1 := own_setCells [.int .i64 v] (p := f + k) HO.out
        have e : iVP (fillT r f v (k + 1)) = setSeg (iVP (fillT r f v k)) (f + k) [.int .i64 v] := by unfold iVP; rw [fillT, List.map_set]; rfl
        rw [e]
        exact h1)
      have HQ2 := hid (HQ.out.setCell (p := ⟨g, f + k, none⟩) (.int .i64 v) (Nat.le_refl _) (Nat.lt_succ_self _))
      go_wp2_with fail
      go_roundw
      case rel => exact ⟨k + 1, by omega, by go_num, HN.out, HQ2.out⟩
      case measure => simp [intOf]; omega
    · have hk2 : k = n := by omega
      subst hk2
      go_wp2_with fail
      (try simp only [Exit.inBlock, Exit.then]); first | refine bodyPost_ret (results_none rfl _ _ _) rfl ?_ | refine bodyPost_end (results_none rfl _ _ _) rfl ?_
      exact ⟨rfl, HO.out, HQ.out⟩

set_option maxHeartbeats 1600000 in
set_option maxRecDepth 100000 in
theorem l18Put_ok (g : Nat) (r : List Int) (f n : Nat) (v : Int) (w : World) (ho : w.ownsRow g 2 1 (gV g) 40 (iVP r)) (hf : f + n ≤ 40) :
    Calls Try.prog 179 #[gV g, .int .i64 (f : Int), .int .i64 (n : Int), .int .i64 v] w fun e w' => e = .returned (.tuple #[]) ∧ w'.ownsRow g 2 1 (gV g) 40 (iVP (fillT r f v n)) ∧ Chg g (g + 1) w w' := by
  have HO0 := hid ho
  clear ho
  unfold gV at *
  go_enter Try.func179, Try.ntmps179
  go_wp2_with fail
  go_loopw [8] (fun i wr => ∃ k : Nat, k ≤ n ∧ i = .int .i64 ((f : Int) + (k : Int)) ∧ wr.ownsRow g 2 1 (.slice (some ⟨g, 0, none⟩) 40 40) 40 (iVP (fillT r f v k)) ∧ Chg g (g + 1) w wr) (fun i _ => f + n - (intOf i).toNat)
  case atStart => exact ⟨0, Nat.zero_le _, by simp, HO0.out, Chg.refl _ _ _⟩
  case round =>
    obtain ⟨k, hk, rfl, hown, hq⟩ := hrel
    have HO := hid hown
    have HQ := hid hq
    clear hown hq
    by_cases hkl : k < n
    · have q0 : (0 : Int) ≤ (f : Int) + (k : Int) := by omega
      have q1 : (f : Int) + (k : Int) < 40 := by omega
      have q2 : (f : Int) + (k : Int) < (f : Int) + (n : Int) := by omega
      have e1 : ((f : Int) + (k : Int)).toNat = f + k := by omega
      obtain ⟨u, hold⟩ := own_cell HO.out (q := f + k) (by omega)
      have hfr := HO.out.frozenAt (f + k)
      have HN := hid (show (wr.setCell ⟨g, f + k, none⟩ (.int .i64 v)).ownsRow g 2 1 (.slice (some ⟨g, 0, none⟩) 40 40) 40 (iVP (fillT r f v (k + 1))) by
        have h1 := own_setCells [.int .i64 v] (p := f + k) HO.out
        have e : iVP (fillT r f v (k + 1)) = setSeg (iVP (fillT r f v k)) (f + k) [.int .i64 v] := by unfold iVP; rw [fillT, List.map_set]; rfl
        rw [e]
        exact h1)
      have HQ2 := hid (HQ.out.setCell (p := ⟨g, f + k, none⟩) (.int .i64 v) (Nat.le_refl _) (Nat.lt_succ_self _))
      go_wp2_with fail
      go_roundw
      case rel => exact ⟨k + 1, by omega, by go_num, HN.out, HQ2.out⟩
      case measure => simp [intOf]; omega
    · have hk2 : k = n := by omega
      subst hk2
      go_wp2_with fail
      (try simp only [Exit.inBlock, Exit.then]); first | refine bodyPost_ret (results_none rfl _ _ _) rfl ?_ | refine bodyPost_end (results_none rfl _ _ _) rfl ?_
      exact ⟨rfl, HO.out, HQ.out⟩

end Go.Proofs.Ytdbjbkdcmhekfaa
