/- The common ancestor. -/
import Derived.Test.YtnekigpeknenjaaCom
namespace Go.Proofs.Ytnekigpeknenjaa
open Go.RowKit
set_option linter.unusedVariables false

set_option maxHeartbeats 1600000 in
set_option maxRecDepth 100000 in
theorem common_ok (A : Option Addr) (c : Nat) (xs : List DVersion) (a b : Nat) (w : World) (hA : NestAt 2 hdVersion inVersion w A xs) (hh : HistTo xs xs.length) (hn : xs.length ≤ 32) (a0 : 0 < a) (a1 : a ≤ xs.length) (b0 : 0 < b) (b1 : b ≤ xs.length) :
    Calls Try.prog 99 #[.slice A xs.length c, .int .i64 a, .int .i64 b] w fun e w' => e = .returned (.int .i64 (comN xs a b)) ∧ Below w.heap.size w w' := by
  have HA := hid hA
  have HH := hid hh
  have la := ancN_small hh hn a0 a1
  have lb := ancN_small hh hn b0 b1
  clear hA hh
  go_enter Try.func99, Try.ntmps99
  go_wp2_with (first
    | (go_at_call 135; refine (ancestors_ok _ _ xs a _ (HA.out.below (hbel2.alloc hbel2.size _)) HH.out hn a0 a1).mono ?_; rintro e w3 ⟨A3, c3, rfl, ho3, hno3, hb3⟩)
    | (go_at_call 135; refine (ancestors_ok _ _ xs b _ HA.out HH.out hn b0 b1).mono ?_; rintro e w1 ⟨A1, c1, rfl, ho1, hno1, hb1⟩)
    | (at_builtin; refine wpList_app_src (w0 := w2) rfl (.tmp 17) (.tmp 20) 23 rfl w2.heap.size 2 (.int .i64 0) 1 8 Try.underlying23 infoI rfl (by decide) _ 1 [.int .i64 (a : Int)] rfl (own_below (World.ownsRow_lit w2 #[.int .i64 (a : Int)] 1 (Nat.le_refl _) (by unfold maxLen; omega) rfl) hb3) A3 (ancN xs a).length c3 ((ancN xs a).map (Value.int .i64)) rfl (by simp) hno3 (own_src ho3) (by simp [Value.oneCell']) (by omega) (below_trans (below_alloc w2 _) hb3).size (below_trans (below_alloc w2 _) hb3) ?_; intro v4 w4 hown4 hbel4 hz4; obtain ⟨g4, c4, rfl, hf4⟩ := own_form hown4 (by omega))
    | (at_builtin; refine wpList_app (w0 := w) rfl (.tmp 12) (.tmp 14) 23 rfl w.heap.size 2 (.int .i64 0) 1 8 Try.underlying23 infoI rfl (by decide) _ _ _ rfl ho1 #[.int .i64 (b : Int)] 1 1 rfl rfl (by simp [Value.oneCell']) (by omega) hb1.size hb1 ?_; intro v2 w2 hown2 hbel2 hz2 _; obtain ⟨g2, c2, rfl, hf2⟩ := own_form hown2 (by omega)))
  have HT := hid (ints_own (ns := ancN xs b ++ [(b : Int)]) (by rw [List.map_append]; exact own_below hown2 hbel4))
  have HO := hid (ints_own (ns := (a : Int) :: ancN xs a) hown4)
  have HB := hid (below_trans hbel2 hbel4)
  clear hf2 hf4 hown2 hown4 hbel2 hbel4 ho1 hno1 hb1 ho3 hno3 hb3 hz2 hz4
  obtain ⟨one, hone⟩ : ∃ one, one = (a : Int) :: ancN xs a := ⟨_, rfl⟩
  have ol : one.length = 1 + (ancN xs a).length := by rw [hone]; simp only [List.length_cons]; omega
  rw [← hone] at HO
  have HN := hid hone
  clear hone
  go_loop [23] (fun i => ∃ k : Nat, k ≤ one.length ∧ i = .int .i64 k ∧ ∀ j (h : j < one.length), j < k → (ancN xs b ++ [(b : Int)]).contains one[j] = false) (fun i => one.length - (intOf i).toNat)
  case atStart => exact ⟨0, Nat.zero_le _, rfl, fun _ _ h => absurd h (by omega)⟩
  case round =>
    obtain ⟨k, hk, rfl, hall⟩ := hrel
    have HL := hid hall
    clear hall
    by_cases hkl : k < one.length
    · obtain ⟨b', o', hb', hlt, hc⟩ := HO.out (by intro e; rw [e] at hkl; exact absurd hkl (by simp))
      injection hb' with hb'
      injection hb' with hb' ho'
      subst hb' ho'
      have hcell : w4.cell? ⟨g4, k, none⟩ = some (.int .i64 one[k]) := by have := hc k _ (List.getElem?_eq_getElem hkl); rwa [Nat.zero_add] at this
      have q0 : (0 : Int) ≤ (k : Int) := by omega
      have q1 : (k : Int) < 1 + ((ancN xs a).length : Int) := by omega
      clear hc
      by_cases hp : (ancN xs b ++ [(b : Int)]).contains one[k] = true
      · have HP := hid hp
        clear hp
        have HF := hid (show one[k] = comN xs a b by
          have h2 := firstIn_at (one := one) (two := (b : Int) :: ancN xs b) hkl (fun j h1 h2 => by rw [← contains_swap]; exact HL.out j h1 h2) (by rw [← contains_swap]; exact HP.out)
          rw [← h2, comN, ← HN.out])
        go_wp2_with (go_at_call 168; refine (Contains_ok _ _ (ancN xs b ++ [(b : Int)]) one[k] _ HT.out (by rw [List.length_append]; simp only [List.length_cons, List.length_nil]; omega) _ (by rw [List.length_append]; rfl) true HP.out).mono ?_; rintro e w' ⟨rfl, rfl⟩)
        go_ret
        exact ⟨by first | (rw [HF.out]; done) | (rw [HF.out]; rfl) | (rw [← HF.out]; rfl), HB.out⟩
      · have HP := hid (show (ancN xs b ++ [(b : Int)]).contains one[k] = false by simpa only [Bool.not_eq_true] using hp)
        clear hp
        have HS := hid (show ∀ j (h : j < one.length), j < k + 1 → (ancN xs b ++ [(b : Int)]).contains one[j] = false from fun j h hj => by
          rcases Nat.lt_or_ge j k with h3 | h3
          · exact HL.out j h h3
          · have e : j = k := by omega
            subst e; exact HP.out)
        go_wp2_with (go_at_call 168; refine (Contains_ok _ _ (ancN xs b ++ [(b : Int)]) one[k] _ HT.out (by rw [List.length_append]; simp only [List.length_cons, List.length_nil]; omega) _ (by rw [List.length_append]; rfl) false HP.out).mono ?_; rintro e w' ⟨rfl, rfl⟩)
        go_round
        case rel => exact ⟨k + 1, by omega, by go_num, HS.out⟩
        case measure => simp [intOf]; omega
    · have HF := hid (show comN xs a b = 0 by
        rw [comN, ← HN.out]
        exact firstIn_none (fun j h => by rw [← contains_swap]; exact HL.out j h (by omega)))
      go_wp2_with fail
      go_ret
      exact ⟨by first | (rw [HF.out]; done) | (rw [HF.out]; rfl) | (rw [← HF.out]; rfl), HB.out⟩

set_option maxHeartbeats 1600000 in
set_option maxRecDepth 100000 in
theorem l27Common_ok (A : Option Addr) (c : Nat) (xs : List DVersion) (a b : Nat) (w : World) (hA : NestAt 2 hdVersion inVersion w A xs) (hh : HistTo xs xs.length) (hn : xs.length ≤ 32) (a0 : 0 < a) (a1 : a ≤ xs.length) (b0 : 0 < b) (b1 : b ≤ xs.length) :
    Calls Try.prog 95 #[.slice A xs.length c, .int .i64 a, .int .i64 b] w fun e w' => e = .returned (.int .i64 (comN xs a b)) ∧ Below w.heap.size w w' := by
  have HA := hid hA
  have HH := hid hh
  have la := ancN_small hh hn a0 a1
  have lb := ancN_small hh hn b0 b1
  clear hA hh
  go_enter Try.func95, Try.ntmps95
  go_wp2_with (first
    | (go_at_call 134; refine (l27Above_ok _ _ xs b _ (HA.out.below (hbel2.alloc hbel2.size _)) HH.out hn b0 b1).mono ?_; rintro e w3 ⟨A3, c3, rfl, ho3, hno3, hb3⟩)
    | (go_at_call 134; refine (l27Above_ok _ _ xs a _ (HA.out.below (below_alloc w _)) HH.out hn a0 a1).mono ?_; rintro e w1 ⟨A1, c1, rfl, ho1, hno1, hb1⟩)
    | (at_builtin; refine wpList_app_src (w0 := w2) rfl (.tmp 17) (.tmp 20) 23 rfl w2.heap.size 2 (.int .i64 0) 1 8 Try.underlying23 infoI rfl (by decide) _ 1 [.int .i64 (b : Int)] rfl (own_below (World.ownsRow_lit w2 #[.int .i64 (b : Int)] 1 (Nat.le_refl _) (by unfold maxLen; omega) rfl) hb3) A3 (ancN xs b).length c3 ((ancN xs b).map (Value.int .i64)) rfl (by simp) hno3 (own_src ho3) (by simp [Value.oneCell']) (by omega) (below_trans (below_alloc w2 _) hb3).size (below_trans (below_alloc w2 _) hb3) ?_; intro v4 w4 hown4 hbel4 hz4; obtain ⟨g4, c4, rfl, hf4⟩ := own_form hown4 (by omega))
    | (at_builtin; refine wpList_app_src (w0 := w) rfl (.tmp 11) (.tmp 14) 23 rfl w.heap.size 2 (.int .i64 0) 1 8 Try.underlying23 infoI rfl (by decide) _ 1 [.int .i64 (a : Int)] rfl (own_below (World.ownsRow_lit w #[.int .i64 (a : Int)] 1 (Nat.le_refl _) (by unfold maxLen; omega) rfl) hb1) A1 (ancN xs a).length c1 ((ancN xs a).map (Value.int .i64)) rfl (by simp) hno1 (own_src ho1) (by simp [Value.oneCell']) (by omega) (below_trans (below_alloc w _) hb1).size (below_trans (below_alloc w _) hb1) ?_; intro v2 w2 hown2 hbel2 hz2; obtain ⟨g2, c2, rfl, hf2⟩ := own_form hown2 (by omega)))
  have HT := hid (ints_own (ns := (b : Int) :: ancN xs b) hown4)
  have HO := hid (ints_own (ns := (a : Int) :: ancN xs a) (own_below hown2 hbel4))
  have HB := hid (below_trans hbel2 hbel4)
  clear hf2 hf4 hown2 hown4 hbel2 hbel4 ho1 hno1 hb1 ho3 hno3 hb3 hz2 hz4
  obtain ⟨one, hone⟩ : ∃ one, one = (a : Int) :: ancN xs a := ⟨_, rfl⟩
  have ol : one.length = 1 + (ancN xs a).length := by rw [hone]; simp only [List.length_cons]; omega
  rw [← hone] at HO
  have HN := hid hone
  clear hone
  go_loop [9] (fun i => ∃ k : Nat, k ≤ one.length ∧ i = .int .i64 k ∧ ∀ j (h : j < one.length), j < k → ((b : Int) :: ancN xs b).contains one[j] = false) (fun i => one.length - (intOf i).toNat)
  case atStart => exact ⟨0, Nat.zero_le _, rfl, fun _ _ h => absurd h (by omega)⟩
  case round =>
    obtain ⟨k, hk, rfl, hall⟩ := hrel
    have HL := hid hall
    clear hall
    by_cases hkl : k < one.length
    · obtain ⟨b', o', hb', hlt, hc⟩ := HO.out (by intro e; rw [e] at hkl; exact absurd hkl (by simp))
      injection hb' with hb'
      injection hb' with hb' ho'
      subst hb' ho'
      have hcell : w4.cell? ⟨g2, k, none⟩ = some (.int .i64 one[k]) := by have := hc k _ (List.getElem?_eq_getElem hkl); rwa [Nat.zero_add] at this
      have q0 : (0 : Int) ≤ (k : Int) := by omega
      have q1 : (k : Int) < 1 + ((ancN xs a).length : Int) := by omega
      clear hc
      by_cases hp : ((b : Int) :: ancN xs b).contains one[k] = true
      · have HP := hid hp
        clear hp
        have HF := hid (show one[k] = comN xs a b by
          have h2 := firstIn_at (one := one) (two := (b : Int) :: ancN xs b) hkl HL.out HP.out
          rw [← h2, comN, ← HN.out])
        go_wp2_with (go_at_call 167; refine (l00Has_ok _ _ ((b : Int) :: ancN xs b) one[k] _ HT.out (by simp only [List.length_cons]; omega) _ (by simp only [List.length_cons]; omega) true HP.out).mono ?_; rintro e w' ⟨rfl, rfl⟩)
        go_ret
        exact ⟨by first | (rw [HF.out]; done) | (rw [HF.out]; rfl) | (rw [← HF.out]; rfl), HB.out⟩
      · have HP := hid (show ((b : Int) :: ancN xs b).contains one[k] = false by simpa only [Bool.not_eq_true] using hp)
        clear hp
        have HS := hid (show ∀ j (h : j < one.length), j < k + 1 → ((b : Int) :: ancN xs b).contains one[j] = false from fun j h hj => by
          rcases Nat.lt_or_ge j k with h3 | h3
          · exact HL.out j h h3
          · have e : j = k := by omega
            subst e; exact HP.out)
        go_wp2_with (go_at_call 167; refine (l00Has_ok _ _ ((b : Int) :: ancN xs b) one[k] _ HT.out (by simp only [List.length_cons]; omega) _ (by simp only [List.length_cons]; omega) false HP.out).mono ?_; rintro e w' ⟨rfl, rfl⟩)
        go_round
        case rel => exact ⟨k + 1, by omega, by go_num, HS.out⟩
        case measure => simp [intOf]; omega
    · have HF := hid (show comN xs a b = 0 by
        rw [comN, ← HN.out]
        exact firstIn_none (fun j h => HL.out j h (by omega)))
      go_wp2_with fail
      go_ret
      exact ⟨by first | (rw [HF.out]; done) | (rw [HF.out]; rfl) | (rw [← HF.out]; rfl), HB.out⟩

end Go.Proofs.Ytnekigpeknenjaa
