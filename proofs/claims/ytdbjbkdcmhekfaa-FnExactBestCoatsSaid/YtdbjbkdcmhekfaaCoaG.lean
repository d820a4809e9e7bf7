/- BestCoats: the gap of two colours, impl's and spec's. -/
import Derived.Test.YtdbjbkdcmhekfaaCoaM
namespace Go.Proofs.Ytdbjbkdcmhekfaa
open Go.RowKit
set_option linter.unusedVariables false

theorem distance_ok (a b : Int) (w : World) (ha : 0 ≤ a) (ha1 : a ≤ 255) (hb : 0 ≤ b) (hb1 : b ≤ 255) : Calls Try.prog 184 #[.int .i64 a, .int .i64 b] w fun e w' => e = .returned (.int .i64 (gap1 a b)) ∧ w = w' := by
  have HE := hid (show gap1 a b = max (a - b) (b - a) from rfl)
  go_enter Try.func184, Try.ntmps184
  go_wp2_with fail
  all_goals (go_ret; exact ⟨ret_int (by rw [HE.out]; omega), rfl⟩)
theorem gapMax_ok (a b : Int) (w : World) : Calls Try.prog 187 #[.int .i64 a, .int .i64 b] w fun e w' => e = .returned (.int .i64 (max a b)) ∧ w = w' := by
  rcases Int.lt_or_le b a with h | h
  · have HE := hid (show max a b = a by omega)
    go_enter Try.func187, Try.ntmps187
    go_wp2_with fail
    go_ret
    exact ⟨ret_int HE.out.symm, rfl⟩
  · have HE := hid (show max a b = b by omega)
    go_enter Try.func187, Try.ntmps187
    go_wp2_with fail
    go_ret
    exact ⟨ret_int HE.out.symm, rfl⟩
theorem l03Abs_ok (a b : Int) (w : World) (ha : 0 ≤ a) (ha1 : a ≤ 255) (hb : 0 ≤ b) (hb1 : b ≤ 255) : Calls Try.prog 182 #[.int .i64 a, .int .i64 b] w fun e w' => e = .returned (.int .i64 (gap1 a b)) ∧ w = w' := by
  have HE := hid (show gap1 a b = max (a - b) (b - a) from rfl)
  go_enter Try.func182, Try.ntmps182
  go_wp2_with (go_at_call 187; refine (gapMax_ok _ _ _).mono ?_; rintro e w' ⟨rfl, rfl⟩)
  go_ret
  exact ⟨ret_int (by rw [HE.out]), rfl⟩
set_option maxHeartbeats 800000 in
set_option maxRecDepth 100000 in
theorem colourGap_ok (A B : Option Addr) (cA cB : Nat) (a b : List Int) (w : World) (hA : IntsAt w A a) (hB : IntsAt w B b) (ha : Col a) (hb : Col b) :
    Calls Try.prog 154 #[.slice A a.length cA, .slice B b.length cB] w fun e w' => e = .returned (.int .i64 (gapN a b)) ∧ w = w' := by
  have ha3 := ha.2
  have hb3 := hb.2
  obtain ⟨ab, ao, rfl, alt, hac⟩ := hA (by intro e; rw [e] at ha3; exact absurd ha3 (by simp))
  obtain ⟨bb, bo, rfl, blt, hbc⟩ := hB (by intro e; rw [e] at hb3; exact absurd hb3 (by simp))
  have HA := hid hac
  have HB := hid hbc
  have CA := hid ha
  have CB := hid hb
  have hal : a.length ≤ 3 := by omega
  have hbl : 3 ≤ b.length := by omega
  have hbl2 : b.length ≤ 3 := by omega
  clear hA hB hac hbc ha hb ha3 hb3
  go_enter Try.func154, Try.ntmps154
  go_wp2_with fail
  go_loop [5, 10] (fun s i => ∃ k : Nat, k ≤ a.length ∧ i = .int .i64 k ∧ s = .int .i64 (gapTo a b k)) (fun _ i => a.length - (intOf i).toNat)
  case atStart => exact ⟨0, Nat.zero_le _, rfl, rfl⟩
  case round =>
    obtain ⟨k, hk, rfl, rfl⟩ := hrel
    obtain ⟨g0, g1⟩ := gapTo_bd CA.out CB.out (k := k) (by omega)
    by_cases hkl : k < a.length
    · have kb : k < b.length := by omega
      have q0 : (0 : Int) ≤ (k : Int) := by omega
      have q1 : (k : Int) < a.length := by omega
      have q2 : (k : Int) < b.length := by omega
      obtain ⟨m0, m1⟩ := CA.out.1 _ (List.getElem_mem hkl)
      obtain ⟨n0, n1⟩ := CB.out.1 _ (List.getElem_mem kb)
      have g2 : gap1 a[k] b[k] ≤ 255 := (gap1_bd ⟨m0, m1⟩ ⟨n0, n1⟩).2
      have g3 : 0 ≤ gap1 a[k] b[k] := (gap1_bd ⟨m0, m1⟩ ⟨n0, n1⟩).1
      have g4 : (k : Int) ≤ 2 := by omega
      have HN := hid (gapTo_succ hkl kb)
      have ca : w.cell? ⟨ab, ao + k, none⟩ = some (.int .i64 a[k]) := HA.out k _ (List.getElem?_eq_getElem hkl)
      have cb : w.cell? ⟨bb, bo + k, none⟩ = some (.int .i64 b[k]) := HB.out k _ (List.getElem?_eq_getElem kb)
      go_wp2_with (go_at_call 184; refine (distance_ok _ _ _ (by omega) (by omega) (by omega) (by omega)).mono ?_; rintro e w' ⟨rfl, rfl⟩)
      go_round
      case rel => exact ⟨k + 1, by omega, by go_num, by rw [HN.out]⟩
      case measure => simp [intOf]; omega
    · have hk2 : k = a.length := by omega
      subst hk2
      have HN := hid (gapTo_end CA.out CB.out)
      go_wp2_with fail
      go_ret
      exact ⟨ret_int HN.out, rfl⟩
set_option maxHeartbeats 800000 in
set_option maxRecDepth 100000 in
theorem l13Gap_ok (A B : Option Addr) (cA cB : Nat) (a b : List Int) (w : World) (hA : IntsAt w A a) (hB : IntsAt w B b) (ha : Col a) (hb : Col b) :
    Calls Try.prog 151 #[.slice A a.length cA, .slice B b.length cB] w fun e w' => e = .returned (.int .i64 (gapN a b)) ∧ ∃ n, w' = w.drewN n := by
  have ha3 := ha.2
  have hb3 := hb.2
  obtain ⟨ab, ao, rfl, alt, hac⟩ := hA (by intro e; rw [e] at ha3; exact absurd ha3 (by simp))
  obtain ⟨bb, bo, rfl, blt, hbc⟩ := hB (by intro e; rw [e] at hb3; exact absurd hb3 (by simp))
  have HA := hid hac
  have HB := hid hbc
  have CA := hid ha
  have CB := hid hb
  have hal : a.length ≤ 3 := by omega
  have hbl : 3 ≤ b.length := by omega
  have hbl2 : b.length ≤ 3 := by omega
  clear hA hB hac hbc ha hb ha3 hb3
  go_enter Try.func151, Try.ntmps151
  go_wp2_with fail
  go_loopw [5, 6] (fun s i wr => ∃ k : Nat, k ≤ a.length ∧ i = .int .i64 k ∧ s = .int .i64 (gapTo a b k) ∧ ∃ n, wr = w.drewN n) (fun _ i _ => a.length - (intOf i).toNat)
  case atStart => exact ⟨0, Nat.zero_le _, rfl, rfl, 0, rfl⟩
  case round =>
    obtain ⟨k, hk, rfl, rfl, n, rfl⟩ := hrel
    obtain ⟨g0, g1⟩ := gapTo_bd CA.out CB.out (k := k) (by omega)
    by_cases hkl : k < a.length
    · have kb : k < b.length := by omega
      have q0 : (0 : Int) ≤ (k : Int) := by omega
      have q1 : (k : Int) < a.length := by omega
      have q2 : (k : Int) < b.length := by omega
      obtain ⟨m0, m1⟩ := CA.out.1 _ (List.getElem_mem hkl)
      obtain ⟨n0, n1⟩ := CB.out.1 _ (List.getElem_mem kb)
      have g2 : gap1 a[k] b[k] ≤ 255 := (gap1_bd ⟨m0, m1⟩ ⟨n0, n1⟩).2
      have g3 : 0 ≤ gap1 a[k] b[k] := (gap1_bd ⟨m0, m1⟩ ⟨n0, n1⟩).1
      have g4 : (k : Int) ≤ 2 := by omega
      have HN := hid (gapTo_succ hkl kb)
      have ca : (w.drewN n).cell? ⟨ab, ao + k, none⟩ = some (.int .i64 a[k]) := HA.out k _ (List.getElem?_eq_getElem hkl)
      have cb : (w.drewN n).cell? ⟨bb, bo + k, none⟩ = some (.int .i64 b[k]) := HB.out k _ (List.getElem?_eq_getElem kb)
      generalize hW : w.drewN n = W at ca cb ⊢
      have HW := hid hW
      clear hW
      go_wp2_with fail
      go_quiet ((go_at_call 182; with_reducible exact quiet_left (l03Abs_ok _ _ _ (by omega) (by omega) (by omega) (by omega))))
      go_wp2_with fail
      go_roundw
      case rel => exact ⟨k + 1, by omega, by go_num, by rw [HN.out], n + nq, by rw [← HW.out]; simp [World.drewN, Nat.add_assoc]⟩
      case measure => simp [intOf]; omega
    · have hk2 : k = a.length := by omega
      subst hk2
      have HN := hid (gapTo_end CA.out CB.out)
      go_wp2_with fail
      go_ret
      exact ⟨ret_int HN.out, _, rfl⟩

end Go.Proofs.Ytdbjbkdcmhekfaa
