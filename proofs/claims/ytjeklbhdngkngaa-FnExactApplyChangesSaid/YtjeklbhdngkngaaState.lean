/- Memos and states: impl's and spec's tests. -/
import Derived.Test.YtjeklbhdngkngaaKeepM
import Derived.Test.YtjeklbhdngkngaaRange
import Derived.Test.YtjeklbhdngkngaaTSetting
namespace Go.Proofs.Ytjeklbhdngkngaa
open Go.RowKit
set_option linter.unusedVariables false

/-- the first k bytes may stand in a memo -/
def MemoTo (s : ByteArray) (k : Nat) : Prop := ∀ j (h : j < s.size), j < k → inB s[j].toNat 32 126 = true
noncomputable def memoB (s : ByteArray) : Bool := @decide (MemoTo s s.size ∧ s.size ≤ 20) (Classical.propDecidable _)
theorem memoB_iff {s : ByteArray} : memoB s = true ↔ MemoTo s s.size ∧ s.size ≤ 20 := by simp [memoB]
theorem memoB_false {s : ByteArray} (h : ¬ (MemoTo s s.size ∧ s.size ≤ 20)) : memoB s = false := by simp [memoB, h]
theorem MemoTo.zero (s : ByteArray) : MemoTo s 0 := fun _ _ h => absurd h (by omega)
theorem MemoTo.succ {s : ByteArray} {k : Nat} (h : MemoTo s k) (hk : k < s.size) (hc : inB s[k].toNat 32 126 = true) : MemoTo s (k + 1) := by
  intro j hj hjk
  rcases Nat.lt_or_ge j k with h1 | h1
  · exact h j hj h1
  · have : j = k := by omega
    subst this; exact hc
theorem notmemo_at {s : ByteArray} {k : Nat} (hk : k < s.size) (h : inB s[k].toNat 32 126 = false) : memoB s = false := memoB_false fun ⟨h1, _⟩ => by have := h1 k hk hk; simp [h] at this
theorem memo_few {s : ByteArray} (h : MemoTo s s.size) : decide ((s.size : Int) ≤ 20) = memoB s := by
  by_cases h1 : s.size ≤ 20
  · rw [memoB_iff.2 ⟨h, h1⟩]; simp; omega
  · rw [memoB_false fun ⟨_, h2⟩ => h1 h2]; simp; omega

set_option maxHeartbeats 400000 in
theorem isMemo_ok (s : ByteArray) (w : World) (hs : s.size ≤ maxLen) : Calls Try.prog 89 #[.string s] w fun e w' => e = .returned (.bool (memoB s)) ∧ w = w' := by
  unfold maxLen at hs
  go_enter Try.func89, Try.ntmps89
  go_wp2_with fail
  go_loop [3] (fun i => ∃ k : Nat, k ≤ s.size ∧ i = .int .i64 k ∧ MemoTo s k) (fun i => s.size - (intOf i).toNat)
  case atStart => exact ⟨0, Nat.zero_le _, rfl, MemoTo.zero s⟩
  case round =>
    obtain ⟨k, hk, rfl, hall⟩ := hrel
    have HA := hid hall
    clear hall
    by_cases hlt : k < s.size
    · have ew : wrap64 (s[k].toNat : Int) = s[k].toNat := IntWalk.wrap64_in _ (by have := s[k].toNat_lt; omega)
      cases c1 : inB s[k].toNat 32 126
      · have HN := hid (notmemo_at hlt c1)
        go_wp2_with (go_at_call 77; refine (within_ok _ _ _ _).mono ?_; rintro e w' ⟨rfl, rfl⟩)
        go_ret
        exact ⟨ret_bool HN.out.symm, rfl⟩
      · have HS := hid (HA.out.succ hlt c1)
        go_wp2_with (go_at_call 77; refine (within_ok _ _ _ _).mono ?_; rintro e w' ⟨rfl, rfl⟩)
        go_round
        case rel => exact ⟨k + 1, by omega, by go_num, HS.out⟩
        case measure => simp [intOf]; omega
    · have hk2 : k = s.size := by omega
      subst hk2
      have HN := hid (memo_few HA.out)
      go_wp2_with (go_at_call 69; refine (few_ok _ _ _).mono ?_; rintro e w' ⟨rfl, rfl⟩)
      go_ret
      exact ⟨ret_bool HN.out, rfl⟩

set_option maxHeartbeats 400000 in
theorem l27Memo_ok (s : ByteArray) (w : World) (hs : s.size ≤ maxLen) : Calls Try.prog 84 #[.string s] w fun e w' => e = .returned (.bool (memoB s)) ∧ w = w' := by
  unfold maxLen at hs
  go_enter Try.func84, Try.ntmps84
  go_wp2_with fail
  go_loop [3] (fun i => ∃ k : Nat, k ≤ s.size ∧ i = .int .i64 k ∧ MemoTo s k) (fun i => s.size - (intOf i).toNat)
  case atStart => exact ⟨0, Nat.zero_le _, rfl, MemoTo.zero s⟩
  case round =>
    obtain ⟨k, hk, rfl, hall⟩ := hrel
    have HA := hid hall
    clear hall
    by_cases hlt : k < s.size
    · by_cases c0 : (s[k].toNat : Int) < 32
      · have HN := hid (notmemo_at hlt (by simp [inB]; omega))
        go_wp2_with fail
        go_ret
        exact ⟨ret_bool HN.out.symm, rfl⟩
      · by_cases c1 : (126 : Int) < s[k].toNat
        · have HN := hid (notmemo_at hlt (by simp [inB]; omega))
          go_wp2_with fail
          go_ret
          exact ⟨ret_bool HN.out.symm, rfl⟩
        · have HS := hid (HA.out.succ hlt (inB_iff.2 ⟨by omega, by omega⟩))
          go_wp2_with fail
          go_round
          case rel => exact ⟨k + 1, by omega, by go_num, HS.out⟩
          case measure => simp [intOf]; omega
    · have hk2 : k = s.size := by omega
      subst hk2
      have HN := hid (memo_few HA.out)
      go_wp2_with fail
      go_ret
      exact ⟨ret_bool HN.out, rfl⟩

def setB (x : DSetting) : Bool := nameB x.fName && inB x.fValue 0 1000

theorem settingValid_ok (x : DSetting) (w : World) (hx : x.fName.size ≤ maxLen) :
    Calls Try.prog 78 #[.agg #[.string x.fName, .int .i64 x.fValue]] w fun e w' => e = .returned (.bool (setB x)) ∧ Below w.heap.size w w' := by
  go_enter Try.func78, Try.ntmps78
  go_wp2_with (first | (go_at_call 131; refine (IsName_ok _ _ hx).mono ?_; rintro e w' ⟨rfl, rfl⟩) | (go_at_call 77; refine (within_ok _ _ _ _).mono ?_; rintro e w' ⟨rfl, rfl⟩))
  all_goals (go_ret; exact ⟨ret_bool (by simp [setB, *]), below_alloc _ _⟩)
theorem l27Setting_ok (x : DSetting) (b o : Nat) (w : World) (hx : x.fName.size ≤ maxLen) (k0 : w.cell? ⟨b, o, none⟩ = some (.string x.fName)) (k1 : w.cell? ⟨b, o + 1, none⟩ = some (.int .i64 x.fValue)) :
    Calls Try.prog 124 #[.pointer (some ⟨b, o, none⟩)] w fun e w' => e = .returned (.bool (setB x)) ∧ w = w' := by
  go_enter Try.func124, Try.ntmps124
  go_wp2_with (first | (go_at_call 147; refine (l01Name_ok _ _ hx).mono ?_; rintro e w' ⟨rfl, rfl⟩) | (go_at_call 100; refine (l00In_ok _ _ _ _).mono ?_; rintro e w' ⟨rfl, rfl⟩))
  all_goals (go_ret; exact ⟨ret_bool (by simp [setB, *]), rfl⟩)
theorem l27Setting_eq {x : DSetting} {v : Bool} (h : setB x = v) {b o : Nat} {w : World} (hx : x.fName.size ≤ maxLen) (k0 : w.cell? ⟨b, o, none⟩ = some (.string x.fName)) (k1 : w.cell? ⟨b, o + 1, none⟩ = some (.int .i64 x.fValue)) :
    Calls Try.prog 124 #[.pointer (some ⟨b, o, none⟩)] w fun e w' => e = .returned (.bool v) ∧ w = w' := h ▸ l27Setting_ok x b o w hx k0 k1

/-- the first k settings are valid and rise by name -/
def StateTo (xs : List DSetting) (k : Nat) : Prop := ∀ j (h : j < xs.length), j < k → setB xs[j] = true ∧ (0 < j → Op.bytesLess xs[j - 1].fName.toList xs[j].fName.toList = true)
noncomputable def stateB (xs : List DSetting) : Bool := @decide (StateTo xs xs.length ∧ xs.length ≤ 24) (Classical.propDecidable _)
theorem stateB_iff {xs : List DSetting} : stateB xs = true ↔ StateTo xs xs.length ∧ xs.length ≤ 24 := by simp [stateB]
theorem stateB_false {xs : List DSetting} (h : ¬ (StateTo xs xs.length ∧ xs.length ≤ 24)) : stateB xs = false := by simp [stateB, h]
theorem StateTo.zero (xs : List DSetting) : StateTo xs 0 := fun _ _ h => absurd h (by omega)
theorem StateTo.succ {xs : List DSetting} {k : Nat} (h : StateTo xs k) (hk : k < xs.length) (h1 : setB xs[k] = true) (h2 : 0 < k → Op.bytesLess xs[k - 1].fName.toList xs[k].fName.toList = true) : StateTo xs (k + 1) := by
  intro j hj hjk
  rcases Nat.lt_or_ge j k with h3 | h3
  · exact h j hj h3
  · have e : j = k := by omega
    subst e; exact ⟨h1, h2⟩
theorem nostate_set {xs : List DSetting} {k : Nat} (hk : k < xs.length) (h : setB xs[k] = false) : stateB xs = false := stateB_false fun hr => by have := (hr.1 k hk hk).1; simp [h] at this
theorem nostate_up {xs : List DSetting} {k : Nat} (hk : k < xs.length) (h0 : 0 < k) (h : Op.bytesLess xs[k - 1].fName.toList xs[k].fName.toList = false) : stateB xs = false := stateB_false fun hr => by have := (hr.1 k hk hk).2 h0; simp [h] at this
theorem state_few {xs : List DSetting} (h : StateTo xs xs.length) : decide ((xs.length : Int) ≤ 24) = stateB xs := by
  by_cases h1 : xs.length ≤ 24
  · rw [stateB_iff.2 ⟨h, h1⟩]; simp; omega
  · rw [stateB_false fun ⟨_, h2⟩ => h1 h2]; simp; omega

set_option maxHeartbeats 1600000 in
set_option maxRecDepth 100000 in
theorem l27State_ok (A : Option Addr) (c : Nat) (xs : List DSetting) (w : World) (hA : RowsAt w 2 A (xs.map DSetting.cells)) (hok : ∀ x ∈ xs, x.ok) (hn : xs.length ≤ 1048576) :
    Calls Try.prog 62 #[.slice A xs.length c] w fun e w' => e = .returned (.bool (stateB xs)) ∧ Below w.heap.size w w' := by
  have HA := hid hA
  have HK := hid hok
  clear hA hok
  go_enter Try.func62, Try.ntmps62
  go_wp2_with fail
  go_loopw [3] (fun i wr => ∃ k : Nat, k ≤ xs.length ∧ i = .int .i64 k ∧ StateTo xs k ∧ Below w.heap.size w wr) (fun i _ => xs.length - (intOf i).toNat)
  case atStart => exact ⟨0, Nat.zero_le _, rfl, StateTo.zero _, Below.refl _ _⟩
  case round =>
    obtain ⟨k, hk, rfl, hall, hbel⟩ := hrel
    have HR := hid hall
    clear hall
    by_cases hkl : k < xs.length
    · have hne : xs.map DSetting.cells ≠ [] := by intro e; rw [List.map_eq_nil_iff] at e; rw [e] at hkl; exact absurd hkl (by simp)
      obtain ⟨b, o, rfl, hlt, hc⟩ := (HA.out.below hbel) hne
      have HC := hid hc
      have hc0 : wr.cell? ⟨b, o + k * 2, none⟩ = some (.string xs[k].fName) := HC.out k _ (by rw [List.getElem?_map, List.getElem?_eq_getElem hkl]; rfl) 0 _ rfl
      have hc1 : wr.cell? ⟨b, o + k * 2 + 1, none⟩ = some (.int .i64 xs[k].fValue) := HC.out k _ (by rw [List.getElem?_map, List.getElem?_eq_getElem hkl]; rfl) 1 _ rfl
      have hx := hid (show xs[k].fName.size ≤ maxLen from HK.out xs[k] (List.getElem_mem hkl))
      have q0 : (0 : Int) ≤ (k : Int) := by omega
      have q1 : (k : Int) < xs.length := by omega
      have BW := hid hbel
      have H0 := hid (show ∀ n, (wr.drewN n).cell? ⟨b, o + k * 2, none⟩ = some (.string xs[k].fName) from fun _ => hc0)
      have H1 := hid (show ∀ n, (wr.drewN n).cell? ⟨b, o + k * 2 + 1, none⟩ = some (.int .i64 xs[k].fValue) from fun _ => hc1)
      clear hc hne hbel
      cases c1 : setB xs[k]
      · have HN := hid (nostate_set hkl c1)
        go_wp2_with fail
        go_quiet ((go_at_call 124; with_reducible exact quiet_left (l27Setting_eq c1 hx.out (H0.out _) (H1.out _))))
        go_wp2_with fail
        go_ret
        exact ⟨ret_bool HN.out.symm, below_drewN' BW.out _⟩
      · rcases Nat.lt_or_ge k 1 with hk0 | hk0
        · have HS := hid (HR.out.succ hkl c1 (fun h => absurd h (by omega)))
          have e0 : decide (0 < k) = false := by simp; omega
          go_wp2_with fail
          go_quiet ((go_at_call 124; with_reducible exact quiet_left (l27Setting_eq c1 hx.out (H0.out _) (H1.out _))))
          go_wp2_with fail
          go_roundw
          case rel => exact ⟨k + 1, by omega, by go_num, HS.out, below_drewN' BW.out _⟩
          case measure => simp [intOf]; omega
        · have e0 : decide (0 < k) = true := by simp; omega
          have hp0 : wr.cell? ⟨b, o + (k - 1) * 2, none⟩ = some (.string xs[k - 1].fName) := HC.out (k - 1) _ (by rw [List.getElem?_map, List.getElem?_eq_getElem (by omega)]; rfl) 0 _ rfl
          have e2 : IntKind.i64.wrap ((k : Int) - 1) = (k : Int) - 1 := IntWalk.i64_in _ (by omega)
          have e3 : (0 : Int) ≤ (k : Int) - 1 := by omega
          have e4 : ((k : Int) - 1).toNat = k - 1 := by omega
          have e5 : (k : Int) - 1 < xs.length := by omega
          cases c2 : Op.bytesLess xs[k - 1].fName.toList xs[k].fName.toList
          · have HN := hid (nostate_up hkl hk0 c2)
            go_wp2_with fail
            go_quiet ((go_at_call 124; with_reducible exact quiet_left (l27Setting_eq c1 hx.out (H0.out _) (H1.out _))))
            go_wp2_with fail
            go_ret
            exact ⟨ret_bool HN.out.symm, below_drewN' BW.out _⟩
          · have HS := hid (HR.out.succ hkl c1 (fun _ => c2))
            go_wp2_with fail
            go_quiet ((go_at_call 124; with_reducible exact quiet_left (l27Setting_eq c1 hx.out (H0.out _) (H1.out _))))
            go_wp2_with fail
            go_roundw
            case rel => exact ⟨k + 1, by omega, by go_num, HS.out, below_drewN' BW.out _⟩
            case measure => simp [intOf]; omega
    · have hk2 : k = xs.length := by omega
      subst hk2
      have HN := hid (state_few HR.out)
      go_wp2_with fail
      go_ret
      exact ⟨ret_bool HN.out, hbel⟩

end Go.Proofs.Ytjeklbhdngkngaa
