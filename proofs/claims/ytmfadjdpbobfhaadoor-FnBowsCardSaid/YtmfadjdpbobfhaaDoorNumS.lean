/- l01Number. -/
import Derived.Test.YtmfadjdpbobfhaaDoorNumR
import Derived.Test.YtmfadjdpbobfhaaDoorBasic
namespace Go.Proofs.YtmfadjdpbobfhaaDoor
open Go.RowKit
set_option linter.unusedVariables false

theorem dgB (c : UInt8) : digB c.toNat = isDg c := by
  rw [Bool.eq_iff_iff, isDg_iff]
  simp [digB]
  omega
theorem b_is {c : UInt8} {k : UInt8} (h : c = k) : ((c.toNat : Int) == (k.toNat : Int)) = true := by rw [h]; simp
theorem b_not {c : UInt8} {k : UInt8} (h : c ≠ k) : ((c.toNat : Int) == (k.toNat : Int)) = false := by
  rw [beq_eq_false_iff_ne]
  intro e
  exact h (UInt8.toNat_inj.1 (by omega))
set_option maxHeartbeats 3200000 in
set_option maxRecDepth 100000 in
theorem l01Number_ok (s : ByteArray) (w : World) (hs : s.size ≤ 1048576) :
    Calls Tryd.prog 71 #[.string s] w fun e w' => e = .returned (.tuple #[.int .i64 ((numO s.data.toList).getD 0), .bool (numO s.data.toList).isSome]) ∧ w = w' := by
  rcases Nat.eq_zero_or_pos s.size with h0 | h0
  · have HN := hid (show numO s.data.toList = none by rw [List.eq_nil_of_length_eq_zero ((lenL s).trans h0)]; rfl)
    have h0' : (s.size : Int) = 0 := by omega
    go_enter Tryd.func71, Tryd.ntmps71
    go_wp2_with fail
    go_ret2
    exact ⟨num_none HN.out, rfl⟩
  by_cases h45 : s[0] = 45
  · have d0 : ((s[0].toNat : Int) == 45) = true := b_is h45
    by_cases h1 : s.size = 1
    · have HN := hid (num1_len h0 h45 (.inl h1))
      have h1' : (s.size : Int) = 1 := by omega
      have e1 : ((s.size : Int) == 1) = true := by rw [beq_iff_eq]; omega
      go_enter Tryd.func71, Tryd.ntmps71
      go_wp2_with fail
      go_ret2
      exact ⟨num_none HN.out, rfl⟩
    have e1 : ((s.size : Int) == 1) = false := by rw [beq_eq_false_iff_ne]; omega
    have e2 : IntKind.i64.wrap ((s.size : Int) - 1) = (s.size : Int) - 1 := IntWalk.i64_in _ (by omega)
    have h1 : 1 < s.size := by omega
    by_cases hl : 18 < s.size - 1
    · have HN := hid (num1_len h0 h45 (.inr hl))
      have hl' : (18 : Int) < (s.size : Int) - 1 := by omega
      go_enter Tryd.func71, Tryd.ntmps71
      go_wp2_with fail
      go_ret2
      exact ⟨num_none HN.out, rfl⟩
    have hl' : ¬ (18 : Int) < (s.size : Int) - 1 := by omega
    have h1' : (1 : Int) < s.size := by omega
    by_cases h48 : s[1] = 48
    · have d1 : ((s[1].toNat : Int) == 48) = true := b_is h48
      have HN := hid (num1_zero h1 h45 h48)
      go_enter Tryd.func71, Tryd.ntmps71
      go_wp2_with fail
      go_ret2
      exact ⟨num_none HN.out, rfl⟩
    have d1 : ((s[1].toNat : Int) == 48) = false := b_not h48
    go_enter Tryd.func71, Tryd.ntmps71
    go_wp2_with fail
    go_loop [5, 6] (fun n i => ∃ k : Nat, 1 ≤ k ∧ k ≤ s.size ∧ i = .int .i64 k ∧ n = .int .i64 (valD 0 (digs s 1 k) : Nat) ∧ ∀ c ∈ digs s 1 k, isDg c = true) (fun _ i => s.size - (intOf i).toNat)
    case atStart => exact ⟨1, Nat.le_refl _, by omega, rfl, by rw [digs_nil]; rfl, by rw [digs_nil]; intro c hc; cases hc⟩
    case round =>
      obtain ⟨k, hak, hk, rfl, rfl, hall⟩ := hrel
      have HA := hid hall
      have hv := digs_small (a := 1) hk (by omega) hall
      have hp : (10 : Nat) ^ (k - 1) ≤ 10 ^ 18 := Nat.pow_le_pow_right (by omega) (by omega)
      obtain ⟨V, hV⟩ : ∃ V, V = valD 0 (digs s 1 k) := ⟨_, rfl⟩
      rw [← hV] at hv ⊢
      have HV := hid hV
      clear hall hV
      by_cases hlt : k < s.size
      · have hp2 : (10 : Nat) ^ (k - 1) ≤ 10 ^ 17 := Nat.pow_le_pow_right (by omega) (by omega)
        have hb := UInt8.toNat_lt s[k]
        cases c1 : digB s[k].toNat
        · have HN := hid (num1_bad (by omega) h45 hak hlt (show isDg s[k] = false by rw [← dgB]; exact c1))
          go_wp2_with (go_at_call 120; refine (l01Digit_ok _ _).mono ?_; rintro e w' ⟨rfl, rfl⟩)
          go_ret2
          exact ⟨num_none HN.out, rfl⟩
        · have hdg : isDg s[k] = true := by rw [← dgB]; exact c1
          have hb2 := isDg_iff.1 hdg
          have HS := hid (digs_succ hak hlt)
          have HD := hid hdg
          have e1 : IntKind.i64.wrap (10 * (V : Int)) = 10 * V := IntWalk.i64_in _ (by omega)
          have e2 : IntKind.u8.wrap ((s[k].toNat : Int) - 48) = (s[k].toNat : Int) - 48 := by simp [IntKind.wrap, IntKind.signed, IntKind.bits]; omega
          have e3 : IntKind.i64.wrap ((s[k].toNat : Int) - 48) = (s[k].toNat : Int) - 48 := IntWalk.i64_in _ (by omega)
          have e4 : IntKind.i64.wrap (10 * (V : Int) + ((s[k].toNat : Int) - 48)) = 10 * (V : Int) + ((s[k].toNat : Int) - 48) := IntWalk.i64_in _ (by omega)
          clear hp hp2 hdg
          go_wp2_with (go_at_call 120; refine (l01Digit_ok _ _).mono ?_; rintro e w' ⟨rfl, rfl⟩)
          go_round
          case rel => exact ⟨k + 1, by omega, by omega, by go_num, by rw [HS.out, valD_app, ← HV.out]; congr 1; omega, by rw [HS.out]; intro c hc; rcases List.mem_append.1 hc with hc | hc; exact HA.out c hc; rw [List.mem_singleton.1 hc]; exact HD.out⟩
          case measure => simp [intOf]; omega
      · have hk2 : k = s.size := by omega
        subst hk2
        have HN := hid (num1_ok h1 h45 (by omega) h48 HA.out)
        rw [← HV.out] at HN
        have e5 : IntKind.i64.wrap (-(V : Int)) = -(V : Int) := IntWalk.i64_in _ (by omega)
        go_wp2_with fail
        go_ret2
        exact ⟨num_some HN.out, rfl⟩
  · have d0 : ((s[0].toNat : Int) == 45) = false := b_not h45
    have e1 : ((s.size : Int) == 0) = false := by rw [beq_eq_false_iff_ne]; omega
    have e2 : IntKind.i64.wrap ((s.size : Int) - 0) = (s.size : Int) := by rw [Int.sub_zero]; exact IntWalk.i64_in _ (by omega)
    have e3 : IntKind.i64.wrap (s.size : Int) = (s.size : Int) := IntWalk.i64_in _ (by omega)
    by_cases hl : 18 < s.size
    · have HN := hid (num0_len h0 h45 hl)
      have hl' : (18 : Int) < (s.size : Int) := by omega
      go_enter Tryd.func71, Tryd.ntmps71
      go_wp2_with fail
      go_ret2
      exact ⟨num_none HN.out, rfl⟩
    have hl' : ¬ (18 : Int) < (s.size : Int) := by omega
    by_cases hz : s[0] = 48 ∧ 1 < s.size
    · have d1 : ((s[0].toNat : Int) == 48) = true := b_is hz.1
      have h1' : (1 : Int) < s.size := by omega
      have HN := hid (num0_zero hz.2 hz.1)
      go_enter Tryd.func71, Tryd.ntmps71
      go_wp2_with fail
      go_ret2
      exact ⟨num_none HN.out, rfl⟩
    have h48 : s.size = 1 ∨ s[0] ≠ 48 := by
      by_cases h : s[0] = 48
      · left; have : ¬ 1 < s.size := fun h2 => hz ⟨h, h2⟩; omega
      · exact .inr h
    by_cases hz2 : s[0] = 48
    · have d1 : ((s[0].toNat : Int) == 48) = true := b_is hz2
      have h1' : ¬ (1 : Int) < s.size := by
        have : ¬ 1 < s.size := fun h2 => hz ⟨hz2, h2⟩
        omega
      clear hz hz2
      go_enter Tryd.func71, Tryd.ntmps71
      go_wp2_with fail
      go_loop [5, 6] (fun n i => ∃ k : Nat, 0 ≤ k ∧ k ≤ s.size ∧ i = .int .i64 k ∧ n = .int .i64 (valD 0 (digs s 0 k) : Nat) ∧ ∀ c ∈ digs s 0 k, isDg c = true) (fun _ i => s.size - (intOf i).toNat)
      case atStart => exact ⟨0, Nat.le_refl _, by omega, rfl, by rw [digs_nil]; rfl, by rw [digs_nil]; intro c hc; cases hc⟩
      case round =>
        obtain ⟨k, hak, hk, rfl, rfl, hall⟩ := hrel
        have HA := hid hall
        have hv := digs_small (a := 0) hk (by omega) hall
        have hp : (10 : Nat) ^ (k - 0) ≤ 10 ^ 18 := Nat.pow_le_pow_right (by omega) (by omega)
        obtain ⟨V, hV⟩ : ∃ V, V = valD 0 (digs s 0 k) := ⟨_, rfl⟩
        rw [← hV] at hv ⊢
        have HV := hid hV
        clear hall hV
        by_cases hlt : k < s.size
        · have hp2 : (10 : Nat) ^ (k - 0) ≤ 10 ^ 17 := Nat.pow_le_pow_right (by omega) (by omega)
          have hb := UInt8.toNat_lt s[k]
          cases c1 : digB s[k].toNat
          · have HN := hid (num0_bad h0 h45 hlt (show isDg s[k] = false by rw [← dgB]; exact c1))
            go_wp2_with (go_at_call 120; refine (l01Digit_ok _ _).mono ?_; rintro e w' ⟨rfl, rfl⟩)
            go_ret2
            exact ⟨num_none HN.out, rfl⟩
          · have hdg : isDg s[k] = true := by rw [← dgB]; exact c1
            have hb2 := isDg_iff.1 hdg
            have HS := hid (digs_succ hak hlt)
            have HD := hid hdg
            have e1 : IntKind.i64.wrap (10 * (V : Int)) = 10 * V := IntWalk.i64_in _ (by omega)
            have e2 : IntKind.u8.wrap ((s[k].toNat : Int) - 48) = (s[k].toNat : Int) - 48 := by simp [IntKind.wrap, IntKind.signed, IntKind.bits]; omega
            have e3 : IntKind.i64.wrap ((s[k].toNat : Int) - 48) = (s[k].toNat : Int) - 48 := IntWalk.i64_in _ (by omega)
            have e4 : IntKind.i64.wrap (10 * (V : Int) + ((s[k].toNat : Int) - 48)) = 10 * (V : Int) + ((s[k].toNat : Int) - 48) := IntWalk.i64_in _ (by omega)
            clear hp hp2 hdg
            go_wp2_with (go_at_call 120; refine (l01Digit_ok _ _).mono ?_; rintro e w' ⟨rfl, rfl⟩)
            go_round
            case rel => exact ⟨k + 1, by omega, by omega, by go_num, by rw [HS.out, valD_app, ← HV.out]; congr 1; omega, by rw [HS.out]; intro c hc; rcases List.mem_append.1 hc with hc | hc; exact HA.out c hc; rw [List.mem_singleton.1 hc]; exact HD.out⟩
            case measure => simp [intOf]; omega
        · have hk2 : k = s.size := by omega
          subst hk2
          have HN := hid (num0_ok h0 h45 (by omega) h48 HA.out)
          rw [← HV.out] at HN
          have e5 : IntKind.i64.wrap (-(V : Int)) = -(V : Int) := IntWalk.i64_in _ (by omega)
          go_wp2_with fail
          go_ret2
          exact ⟨num_some HN.out, rfl⟩
    · have d1 : ((s[0].toNat : Int) == 48) = false := b_not hz2
      clear hz hz2
      go_enter Tryd.func71, Tryd.ntmps71
      go_wp2_with fail
      go_loop [5, 6] (fun n i => ∃ k : Nat, 0 ≤ k ∧ k ≤ s.size ∧ i = .int .i64 k ∧ n = .int .i64 (valD 0 (digs s 0 k) : Nat) ∧ ∀ c ∈ digs s 0 k, isDg c = true) (fun _ i => s.size - (intOf i).toNat)
      case atStart => exact ⟨0, Nat.le_refl _, by omega, rfl, by rw [digs_nil]; rfl, by rw [digs_nil]; intro c hc; cases hc⟩
      case round =>
        obtain ⟨k, hak, hk, rfl, rfl, hall⟩ := hrel
        have HA := hid hall
        have hv := digs_small (a := 0) hk (by omega) hall
        have hp : (10 : Nat) ^ (k - 0) ≤ 10 ^ 18 := Nat.pow_le_pow_right (by omega) (by omega)
        obtain ⟨V, hV⟩ : ∃ V, V = valD 0 (digs s 0 k) := ⟨_, rfl⟩
        rw [← hV] at hv ⊢
        have HV := hid hV
        clear hall hV
        by_cases hlt : k < s.size
        · have hp2 : (10 : Nat) ^ (k - 0) ≤ 10 ^ 17 := Nat.pow_le_pow_right (by omega) (by omega)
          have hb := UInt8.toNat_lt s[k]
          cases c1 : digB s[k].toNat
          · have HN := hid (num0_bad h0 h45 hlt (show isDg s[k] = false by rw [← dgB]; exact c1))
            go_wp2_with (go_at_call 120; refine (l01Digit_ok _ _).mono ?_; rintro e w' ⟨rfl, rfl⟩)
            go_ret2
            exact ⟨num_none HN.out, rfl⟩
          · have hdg : isDg s[k] = true := by rw [← dgB]; exact c1
            have hb2 := isDg_iff.1 hdg
            have HS := hid (digs_succ hak hlt)
            have HD := hid hdg
            have e1 : IntKind.i64.wrap (10 * (V : Int)) = 10 * V := IntWalk.i64_in _ (by omega)
            have e2 : IntKind.u8.wrap ((s[k].toNat : Int) - 48) = (s[k].toNat : Int) - 48 := by simp [IntKind.wrap, IntKind.signed, IntKind.bits]; omega
            have e3 : IntKind.i64.wrap ((s[k].toNat : Int) - 48) = (s[k].toNat : Int) - 48 := IntWalk.i64_in _ (by omega)
            have e4 : IntKind.i64.wrap (10 * (V : Int) + ((s[k].toNat : Int) - 48)) = 10 * (V : Int) + ((s[k].toNat : Int) - 48) := IntWalk.i64_in _ (by omega)
            clear hp hp2 hdg
            go_wp2_with (go_at_call 120; refine (l01Digit_ok _ _).mono ?_; rintro e w' ⟨rfl, rfl⟩)
            go_round
            case rel => exact ⟨k + 1, by omega, by omega, by go_num, by rw [HS.out, valD_app, ← HV.out]; congr 1; omega, by rw [HS.out]; intro c hc; rcases List.mem_append.1 hc with hc | hc; exact HA.out c hc; rw [List.mem_singleton.1 hc]; exact HD.out⟩
            case measure => simp [intOf]; omega
        · have hk2 : k = s.size := by omega
          subst hk2
          have HN := hid (num0_ok h0 h45 (by omega) h48 HA.out)
          rw [← HV.out] at HN
          have e5 : IntKind.i64.wrap (-(V : Int)) = -(V : Int) := IntWalk.i64_in _ (by omega)
          go_wp2_with fail
          go_ret2
          exact ⟨num_some HN.out, rfl⟩

end Go.Proofs.YtmfadjdpbobfhaaDoor
