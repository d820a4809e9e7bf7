/- MostTrusted: nodes, the order of ways, the state of the search. -/
import Derived.Test.YtdbjbkdcmhekfaaTruS
import Derived.Test.YtdbjbkdcmhekfaaCloneI
import Derived.Test.YtdbjbkdcmhekfaaApp2
namespace Go.Proofs.Ytdbjbkdcmhekfaa
open Go.RowKit
set_option linter.unusedVariables false

/-- a stretch of code by what it leaves -/
theorem wp_post {P : Program} {c : Code} {Q : Exit → Act → World → Prop} {a : Act} {w : World} (R : World → Prop) {af : Act} (h : c.wp P (fun e a' w' => match e with | .normal => a' = af ∧ R w' | _ => False) a w) (hc : ∀ w', R w' → Q .normal af w') : c.wp P Q a w :=
  Code.wp_mono (fun e a' w' h => by
    cases e with
    | normal => obtain ⟨ha, hr⟩ := h; subst ha; exact hc _ hr
    | _ => exact h.elim) h
theorem wp_post2 {P : Program} {c : Code} {Q : Exit → Act → World → Prop} {a : Act} {w : World} {α β : Type} (R : World → Prop) {af : α → β → Act} (h : c.wp P (fun e a' w' => match e with | .normal => ∃ x y, a' = af x y ∧ R w' | _ => False) a w) (hc : ∀ x y w', R w' → Q .normal (af x y) w') : c.wp P Q a w :=
  Code.wp_mono (fun e a' w' h => by
    cases e with
    | normal => obtain ⟨x, y, ha, hr⟩ := h; subst ha; exact hc _ _ _ hr
    | _ => exact h.elim) h
theorem nodeI_ok (b : Nat) (left : Int) (w : World) (hc : w.cell? ⟨b, 1, none⟩ = some (.int .i64 left)) (hf : w.frozen? ⟨b, 1, none⟩ = false) (h0 : 0 ≤ left) (h1 : left ≤ 1000000) :
    Calls Try.prog 139 #[.pointer (some ⟨b, 0, none⟩)] w fun e w' => e = .returned (.bool (decide (1 ≤ left))) ∧ w' = w.setCell ⟨b, 1, none⟩ (.int .i64 (left - 1)) := by
  go_enter Try.func139, Try.ntmps139
  go_wp2_with fail
  go_ret
  exact ⟨ret_bool (by simp), rfl⟩
theorem nodeS_more (b : Nat) (n m : Int) (w : World) (hc : w.cell? ⟨b, 4, none⟩ = some (.int .i64 n)) (hf : w.frozen? ⟨b, 4, none⟩ = false) (hm : w.cell? ⟨b, 5, none⟩ = some (.int .i64 m)) (hb : w.cell? ⟨b, 6, none⟩ = some (.bool false)) (h0 : 0 ≤ n) (h1 : n < m) (h2 : m ≤ 1000000) :
    Calls Try.prog 134 #[.pointer (some ⟨b, 0, none⟩)] w fun e w' => e = .returned (.bool true) ∧ ∃ q, w' = (w.drewN q).setCell ⟨b, 4, none⟩ (.int .i64 (n + 1)) := by
  have hne : ¬ n = m := by omega
  have hd : (n == m) = false := by rw [beq_eq_false_iff_ne]; exact hne
  go_enter Try.func134, Try.ntmps134
  go_wp2_with fail
  go_quiet (fail)
  go_wp2_with fail
  go_ret
  exact ⟨rfl, _, rfl⟩
theorem nodeS_full (b : Nat) (n : Int) (f : Bool) (w : World) (hc : w.cell? ⟨b, 4, none⟩ = some (.int .i64 n)) (hm : w.cell? ⟨b, 5, none⟩ = some (.int .i64 n)) (hb : w.cell? ⟨b, 6, none⟩ = some (.bool f)) (hf : w.frozen? ⟨b, 6, none⟩ = false) :
    Calls Try.prog 134 #[.pointer (some ⟨b, 0, none⟩)] w fun e w' => e = .returned (.bool false) ∧ ∃ q, w' = (w.drewN q).setCell ⟨b, 6, none⟩ (.bool true) := by
  go_enter Try.func134, Try.ntmps134
  go_wp2_with fail
  go_quiet (fail)
  go_wp2_with fail
  go_ret
  exact ⟨rfl, _, rfl⟩
theorem less_take {a b : List Nat} : ∀ {k : Nat}, k ≤ a.length → k ≤ b.length → (∀ j (h1 : j < a.length) (h2 : j < b.length), j < k → a[j] = b[j]) → a.take k = b.take k
  | 0, _, _, _ => rfl
  | k + 1, h1, h2, h => by
    rw [List.take_succ_eq_append_getElem (by omega), List.take_succ_eq_append_getElem (by omega), less_take (by omega) (by omega) (fun j h3 h4 h5 => h j h3 h4 (by omega)), h k (by omega) (by omega) (by omega)]
theorem less_split {a b : List Nat} {k : Nat} (h : a.take k = b.take k) : lessL a b = lessL (a.drop k) (b.drop k) := by
  conv => lhs; rw [← List.take_append_drop k a, ← List.take_append_drop k b]
  rw [h, lessL_app]
theorem less_at {a b : List Nat} {k : Nat} (h1 : k < a.length) (h2 : k < b.length) (h : a.take k = b.take k) (hne : a[k] ≠ b[k]) : lessL a b = decide (a[k] < b[k]) := by
  rw [less_split h, List.drop_eq_getElem_cons h1, List.drop_eq_getElem_cons h2, lessL, if_neg hne]
theorem less_end {a b : List Nat} {k : Nat} (h : a.take k = b.take k) (hk : k ≤ a.length) (hk2 : k ≤ b.length) (he : a.length = k ∨ b.length = k) : lessL a b = decide (a.length < b.length) := by
  rw [less_split h]
  cases h1 : a.drop k with
  | nil =>
    have l1 : a.length ≤ k := List.drop_eq_nil_iff.1 h1
    cases h2 : b.drop k with
    | nil =>
      have l2 : b.length ≤ k := List.drop_eq_nil_iff.1 h2
      exact (decide_eq_false (by omega)).symm
    | cons y r =>
      have l2 : (b.drop k).length = r.length + 1 := by rw [h2]; rfl
      rw [List.length_drop] at l2
      exact (decide_eq_true (by omega)).symm
  | cons x q =>
    have l1 : (a.drop k).length = q.length + 1 := by rw [h1]; rfl
    rw [List.length_drop] at l1
    cases h2 : b.drop k with
    | nil =>
      have l2 : b.length ≤ k := List.drop_eq_nil_iff.1 h2
      exact (decide_eq_false (by omega)).symm
    | cons y r =>
      have l2 : (b.drop k).length = r.length + 1 := by rw [h2]; rfl
      rw [List.length_drop] at l2
      omega

set_option maxHeartbeats 1600000 in
set_option maxRecDepth 100000 in
theorem l20Less_ok (a b : List Nat) (Aa Ab : Option Addr) (ca cb : Nat) (w : World) (hA : IntsAt w Aa (a.map Int.ofNat)) (hB : IntsAt w Ab (b.map Int.ofNat)) (ha : a.length ≤ 1048576) (hb : b.length ≤ 1048576) :
    Calls Try.prog 132 #[.slice Aa a.length ca, .slice Ab b.length cb] w fun e w' => e = .returned (.bool (lessL a b)) ∧ ∃ n, w' = w.drewN n := by
  have HA := hid hA
  have HBB := hid hB
  clear hA hB
  go_enter Try.func132, Try.ntmps132
  go_wp2_with fail
  go_loopw [5] (fun i wr => ∃ k : Nat, k ≤ a.length ∧ k ≤ b.length ∧ i = .int .i64 (k : Int) ∧ a.take k = b.take k ∧ ∃ n, wr = w.drewN n) (fun i _ => a.length - (intOf i).toNat)
  case atStart => exact ⟨0, Nat.zero_le _, Nat.zero_le _, rfl, rfl, 0, rfl⟩
  case round =>
    obtain ⟨k, hk, hk2, rfl, hta, n, rfl⟩ := hrel
    have HT := hid hta
    clear hta
    by_cases h1 : k < a.length
    · by_cases h2 : k < b.length
      · obtain ⟨ab, ao, rfl, hlt, hc⟩ := HA.out (by intro e; rw [List.map_eq_nil_iff] at e; rw [e] at h1; exact absurd h1 (by simp))
        obtain ⟨bb, bo, rfl, hlt2, hc2⟩ := HBB.out (by intro e; rw [List.map_eq_nil_iff] at e; rw [e] at h2; exact absurd h2 (by simp))
        have a1 : (w.drewN n).cell? ⟨ab, ao + k, none⟩ = some (.int .i64 (a[k] : Int)) := hc k _ (by rw [List.getElem?_map, List.getElem?_eq_getElem h1]; rfl)
        have b1 : (w.drewN n).cell? ⟨bb, bo + k, none⟩ = some (.int .i64 (b[k] : Int)) := hc2 k _ (by rw [List.getElem?_map, List.getElem?_eq_getElem h2]; rfl)
        generalize hW : w.drewN n = W at a1 b1 ⊢
        have HW := hid hW
        have q0 : (0 : Int) ≤ (k : Int) := by omega
        have q1 : (k : Int) < a.length := by omega
        have q2 : (k : Int) < b.length := by omega
        clear hc hc2 hW
        by_cases he : a[k] = b[k]
        · have d1 : ((a[k] : Int) == (b[k] : Int)) = true := by rw [beq_iff_eq, he]
          have HN := hid (show a.take (k + 1) = b.take (k + 1) by rw [List.take_succ_eq_append_getElem h1, List.take_succ_eq_append_getElem h2, HT.out, he])
          clear he
          go_wp2_with fail
          go_quiet (fail)
          go_wp2_with fail
          go_roundw
          case rel => exact ⟨k + 1, by omega, by omega, by go_num, HN.out, n + nq, by rw [← HW.out]; simp [World.drewN, Nat.add_assoc]⟩
          case measure => simp [intOf]; omega
        · have d1 : ((a[k] : Int) == (b[k] : Int)) = false := by rw [beq_eq_false_iff_ne]; omega
          have HN := hid (less_at h1 h2 HT.out he)
          clear he
          go_wp2_with fail
          go_quiet (fail)
          go_wp2_with fail
          go_quiet (fail)
          go_wp2_with fail
          go_ret
          exact ⟨ret_bool (by rw [HN.out, Bool.eq_iff_iff]), _, by rw [← HW.out]; simp [World.drewN, Nat.add_assoc]; rfl⟩
      · have HN := hid (less_end HT.out hk hk2 (.inr (by omega)))
        have q1 : (k : Int) < a.length := by omega
        have q2 : ¬ (k : Int) < b.length := by omega
        go_wp2_with fail
        go_ret
        exact ⟨ret_bool (by rw [HN.out, Bool.eq_iff_iff]), _, rfl⟩
    · have HN := hid (less_end HT.out hk hk2 (.inl (by omega)))
      have q1 : ¬ (k : Int) < a.length := by omega
      go_wp2_with fail
      go_ret
      exact ⟨ret_bool (by rw [HN.out, Bool.eq_iff_iff]), _, rfl⟩
end Go.Proofs.Ytdbjbkdcmhekfaa
