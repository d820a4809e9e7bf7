/- Contracts of the small functions: ranges, letters, digits, names. -/
import Derived.Test.YtmfadjdpbobfhaaDoorChecked
import Derived.Test.YtmfadjdpbobfhaaDoorNameMath
import Derived.Test.YtmfadjdpbobfhaaDoorKit
import Derived.WalkKit
import Derived.WalkLawsBesides
import Derived.WalkSpells
import Derived.Lib.Hide
import Derived.BigQuiet
import Derived.Deep.QuietTactic
namespace Go.Proofs.YtmfadjdpbobfhaaDoor
open Go.RowKit
set_option linter.unusedVariables false

theorem l01Small_ok (c : Int) (w : World) : Calls Tryd.prog 142 #[.int .u8 c] w fun e w' => e = .returned (.bool (lowB c)) ∧ w = w' := by
  go_enter Tryd.func142, Tryd.ntmps142
  go_wp2
  all_goals (go_ret; exact ⟨ret_bool (by unfold lowB; rw [Bool.eq_iff_iff]; simp; try omega), rfl⟩)
theorem l01Digit_ok (c : Int) (w : World) : Calls Tryd.prog 120 #[.int .u8 c] w fun e w' => e = .returned (.bool (digB c)) ∧ w = w' := by
  go_enter Tryd.func120, Tryd.ntmps120
  go_wp2
  all_goals (go_ret; exact ⟨ret_bool (by unfold digB; rw [Bool.eq_iff_iff]; simp; try omega), rfl⟩)
theorem isDigit_ok (c : Int) (w : World) : Calls Tryd.prog 145 #[.int .u8 c] w fun e w' => e = .returned (.bool (digB c)) ∧ w = w' := by
  go_enter Tryd.func145, Tryd.ntmps145
  go_wp2
  all_goals (go_ret; exact ⟨ret_bool (by unfold digB; rw [Bool.eq_iff_iff]; simp; try omega), rfl⟩)
theorem l00In_ok (n l h : Int) (w : World) : Calls Tryd.prog 95 #[.int .i64 n, .int .i64 l, .int .i64 h] w fun e w' => e = .returned (.bool (inB n l h)) ∧ w = w' := by
  go_enter Tryd.func95, Tryd.ntmps95
  go_wp2
  all_goals (go_ret; exact ⟨ret_bool (by unfold inB; rw [Bool.eq_iff_iff]; simp; try omega), rfl⟩)
theorem within_ok (n l h : Int) (w : World) : Calls Tryd.prog 88 #[.int .i64 n, .int .i64 l, .int .i64 h] w fun e w' => e = .returned (.bool (inB n l h)) ∧ w = w' := by
  go_enter Tryd.func88, Tryd.ntmps88
  go_wp2
  all_goals (go_ret; exact ⟨ret_bool (by unfold inB; rw [Bool.eq_iff_iff]; simp; try omega), rfl⟩)
theorem few_ok (n m : Int) (w : World) : Calls Tryd.prog 102 #[.int .i64 n, .int .i64 m] w fun e w' => e = .returned (.bool (decide (n ≤ m))) ∧ w = w' := by
  go_enter Tryd.func102, Tryd.ntmps102
  go_wp2
  all_goals (go_ret; exact ⟨rfl, rfl⟩)

set_option maxHeartbeats 400000 in
theorem l01Name_ok (s : ByteArray) (w : World) (hs : s.size ≤ maxLen) : Calls Tryd.prog 108 #[.string s] w fun e w' => e = .returned (.bool (nameB s)) ∧ w = w' := by
  unfold maxLen at hs
  rcases Nat.eq_zero_or_pos s.size with h0 | h0
  · have e1 := toList_nil h0
    have HN := Lib.hid (notname_empty h0)
    clear h0
    go_enter Tryd.func108, Tryd.ntmps108
    go_wp2_with fail
    go_ret
    exact ⟨ret_bool HN.out.symm, rfl⟩
  have e1 := isEmpty_ne h0
  have e2 := toList_ne h0
  by_cases h1 : 10 < s.size
  · have HN := Lib.hid (notname_long h1)
    have h1' : (10 : Int) < s.size := by omega
    go_enter Tryd.func108, Tryd.ntmps108
    go_wp2_with fail
    go_ret
    exact ⟨ret_bool HN.out.symm, rfl⟩
  have h1' : ¬ (10 : Int) < s.size := by omega
  by_cases h2 : lowB s[0].toNat = true
  · go_enter Tryd.func108, Tryd.ntmps108
    go_wp2_with (go_at_call 142; refine (l01Small_ok _ _).mono ?_; rintro e w' ⟨rfl, rfl⟩)
    have H2 := Lib.hid h2
    clear h2
    go_loop [3] (fun i => ∃ k : Nat, k ≤ s.size ∧ i = .int .i64 k ∧ AllTo s k) (fun i => s.size - (intOf i).toNat)
    case atStart => exact ⟨0, Nat.zero_le _, rfl, AllTo.zero s⟩
    case round =>
      obtain ⟨k, hk, rfl, hall⟩ := hrel
      have HA := Lib.hid hall
      clear hall
      by_cases hlt : k < s.size
      · cases c1 : lowB s[k].toNat
        · cases c2 : digB s[k].toNat
          · have HN := Lib.hid (notname_at hlt c1 c2)
            go_wp2_with (first | (go_at_call 142; refine (l01Small_ok _ _).mono ?_; rintro e w' ⟨rfl, rfl⟩) | (go_at_call 120; refine (l01Digit_ok _ _).mono ?_; rintro e w' ⟨rfl, rfl⟩))
            go_ret
            exact ⟨ret_bool HN.out.symm, rfl⟩
          · have HS := Lib.hid (HA.out.succ hlt (.inr c2))
            go_wp2_with (first | (go_at_call 142; refine (l01Small_ok _ _).mono ?_; rintro e w' ⟨rfl, rfl⟩) | (go_at_call 120; refine (l01Digit_ok _ _).mono ?_; rintro e w' ⟨rfl, rfl⟩))
            go_round
            case rel => exact ⟨k + 1, by omega, by go_num, HS.out⟩
            case measure => simp [intOf]; omega
        · have HS := Lib.hid (HA.out.succ hlt (.inl c1))
          go_wp2_with (first | (go_at_call 142; refine (l01Small_ok _ _).mono ?_; rintro e w' ⟨rfl, rfl⟩) | (go_at_call 120; refine (l01Digit_ok _ _).mono ?_; rintro e w' ⟨rfl, rfl⟩))
          go_round
          case rel => exact ⟨k + 1, by omega, by go_num, HS.out⟩
          case measure => simp [intOf]; omega
      · have hk2 : k = s.size := by omega
        subst hk2
        have HN := Lib.hid (name_of h0 (by omega) H2.out HA.out)
        go_wp2_with fail
        go_ret
        exact ⟨ret_bool HN.out.symm, rfl⟩
  · have h2' : lowB s[0].toNat = false := by simpa using h2
    have HN := Lib.hid (notname_head h0 h2')
    go_enter Tryd.func108, Tryd.ntmps108
    go_wp2_with (go_at_call 142; refine (l01Small_ok _ _).mono ?_; rintro e w' ⟨rfl, rfl⟩)
    go_ret
    exact ⟨ret_bool HN.out.symm, rfl⟩

/-- the letters that impl's IsName has passed -/
def HeadTo (s : ByteArray) (k : Nat) : Prop := AllTo s k ∧ ∀ h : 0 < s.size, 0 < k → lowB s[0].toNat = true
theorem HeadTo.zero (s : ByteArray) : HeadTo s 0 := ⟨AllTo.zero s, fun _ h => absurd h (by omega)⟩
theorem HeadTo.low {s : ByteArray} {k : Nat} (h : HeadTo s k) (hk : k < s.size) (hc : lowB s[k].toNat = true) : HeadTo s (k + 1) := by
  refine ⟨h.1.succ hk (.inl hc), fun h0 _ => ?_⟩
  rcases Nat.eq_zero_or_pos k with e | e
  · subst e; exact hc
  · exact h.2 h0 e
theorem HeadTo.dig {s : ByteArray} {k : Nat} (h : HeadTo s k) (hk : k < s.size) (hp : 0 < k) (hc : digB s[k].toNat = true) : HeadTo s (k + 1) :=
  ⟨h.1.succ hk (.inr hc), fun h0 _ => h.2 h0 hp⟩
theorem HeadTo.name {s : ByteArray} (h : HeadTo s s.size) (h0 : 0 < s.size) (h1 : s.size ≤ 10) : nameB s = true := name_of h0 h1 (h.2 h0 h0) h.1

set_option maxHeartbeats 400000 in
theorem IsName_ok (s : ByteArray) (w : World) (hs : s.size ≤ maxLen) : Calls Tryd.prog 114 #[.string s] w fun e w' => e = .returned (.bool (nameB s)) ∧ w = w' := by
  unfold maxLen at hs
  go_enter Tryd.func114, Tryd.ntmps114
  go_wp2_with fail
  go_loop [3] (fun i => ∃ k : Nat, k ≤ s.size ∧ i = .int .i64 k ∧ HeadTo s k) (fun i => s.size - (intOf i).toNat)
  case atStart => exact ⟨0, Nat.zero_le _, rfl, HeadTo.zero s⟩
  case round =>
    obtain ⟨k, hk, rfl, hall⟩ := hrel
    have HA := Lib.hid hall
    clear hall
    by_cases hlt : k < s.size
    · by_cases c1 : lowB s[k].toNat = true
      · have HS := Lib.hid (HA.out.low hlt c1)
        obtain ⟨l1, l2⟩ := lowB_iff.1 c1
        clear c1
        go_wp2_with (go_at_call 145; refine (isDigit_ok _ _).mono ?_; rintro e w' ⟨rfl, rfl⟩)
        go_round
        case rel => exact ⟨k + 1, by omega, by go_num, HS.out⟩
        case measure => simp [intOf]; omega
      · have l1 : (s[k].toNat : Int) < 97 ∨ (97 ≤ (s[k].toNat : Int) ∧ decide ((s[k].toNat : Int) ≤ 122) = false) := by
          rcases Int.lt_or_le (s[k].toNat : Int) 97 with h | h
          · exact .inl h
          · refine .inr ⟨h, decide_eq_false fun h2 => c1 (lowB_iff.2 ⟨h, h2⟩)⟩
        rcases Nat.eq_zero_or_pos k with hk0 | hk0
        · subst hk0
          have HN := Lib.hid (notname_head hlt (by simpa using c1))
          clear c1
          rcases l1 with l1 | ⟨l0, l1⟩
          all_goals
            go_wp2_with fail
            go_ret
            exact ⟨ret_bool HN.out.symm, rfl⟩
        · have e0 : ((k : Int) == 0) = false := by rw [beq_eq_false_iff_ne]; omega
          cases c2 : digB s[k].toNat
          · have HN := Lib.hid (notname_at hlt (by simpa using c1) c2)
            clear c1
            rcases l1 with l1 | ⟨l0, l1⟩
            all_goals
              go_wp2_with (go_at_call 145; refine (isDigit_ok _ _).mono ?_; rintro e w' ⟨rfl, rfl⟩)
              go_ret
              exact ⟨ret_bool HN.out.symm, rfl⟩
          · have HS := Lib.hid (HA.out.dig hlt hk0 c2)
            clear c1
            rcases l1 with l1 | ⟨l0, l1⟩
            all_goals
              go_wp2_with (go_at_call 145; refine (isDigit_ok _ _).mono ?_; rintro e w' ⟨rfl, rfl⟩)
              go_round
              case rel => exact ⟨k + 1, by omega, by go_num, HS.out⟩
              case measure => simp [intOf]; omega
    · have hk2 : k = s.size := by omega
      subst hk2
      rcases Nat.eq_zero_or_pos s.size with h0 | h0
      · have e1 := toList_nil h0
        have HN := Lib.hid (notname_empty h0)
        clear h0
        go_wp2_with (go_at_call 102; refine (few_ok _ _ _).mono ?_; rintro e w' ⟨rfl, rfl⟩)
        go_ret
        exact ⟨ret_bool HN.out.symm, rfl⟩
      · have e1 := isEmpty_ne h0
        have e2 := toList_ne h0
        have HN := Lib.hid (show decide ((s.size : Int) ≤ 10) = nameB s by
          by_cases h1 : s.size ≤ 10
          · rw [HA.out.name h0 h1]; simp; omega
          · rw [notname_long (by omega)]; simp; omega)
        go_wp2_with (go_at_call 102; refine (few_ok _ _ _).mono ?_; rintro e w' ⟨rfl, rfl⟩)
        go_ret
        exact ⟨ret_bool HN.out, rfl⟩

end Go.Proofs.YtmfadjdpbobfhaaDoor
