/- Clamps: impl's functions. -/
import Derived.Test.YtnekigpeknenjaaClampMath
import Derived.Test.YtnekigpeknenjaaEarly
import Derived.Deep.RegionHeld3
namespace Go.Proofs.Ytnekigpeknenjaa
open Go.RowKit
set_option linter.unusedVariables false


theorem keepM1 {w1 : World} {p0 : Addr} {v0 : Value} (h0 : p0.block < w1.heap.size) {wa wb : World} (h : (True ∧ Below w1.heap.size w1 wa) ∧ wa.cell? p0 = some v0) (hx : Below wa.heap.size wa wb) :
    (True ∧ Below w1.heap.size w1 wb) ∧ wb.cell? p0 = some v0 := by
  obtain ⟨⟨_, g1⟩, k0⟩ := h
  exact ⟨⟨trivial, g1.trans (hx.mono g1.size)⟩, (hx.cell (Nat.lt_of_lt_of_le h0 g1.size)).trans k0⟩
theorem within_eq {n l h : Int} {v : Bool} (hh : inB n l h = v) (w : World) : Calls Try.prog 123 #[.int .i64 n, .int .i64 l, .int .i64 h] w fun e w' => e = .returned (.bool v) ∧ w = w' := hh ▸ within_ok n l h w


set_option maxHeartbeats 1600000 in
set_option maxRecDepth 100000 in
theorem used_ok (A : Option Addr) (c : Nat) (xs : List DStep) (S : Option Addr) (cS : Nat) (st : List Int) (t : Int) (w : World) (hA : NestAt 1 hdStep inStep w A xs) (hh : StepsTo xs xs.length) (hn : xs.length ≤ 12) (hS : IntsAt w S st) (hsl : st.length ≤ xs.length) (hb : Bd st) (ht0 : 0 ≤ t) (ht1 : t ≤ 100000) :
    Calls Try.prog 202 #[.slice A xs.length c, .slice S st.length cS, .int .i64 t] w fun e w' => e = .returned (.int .i64 (usedTo xs st t st.length)) ∧ Below w.heap.size w w' := by
  have HH := hid hh
  have HA := hid hA
  have HS := hid hS
  have HBD := hid hb
  have hst : st.length ≤ 1048576 := by omega
  clear hA hh hS hb
  go_enter Try.func202, Try.ntmps202
  go_wp2_with fail
  go_loopw [7, 12] (fun h m wr => ∃ k : Nat, k ≤ st.length ∧ m = .int .i64 k ∧ h = .int .i64 (usedTo xs st t k) ∧ Below w.heap.size w wr) (fun _ m _ => st.length - (intOf m).toNat)
  case atStart => exact ⟨0, Nat.zero_le _, rfl, rfl, Below.refl _ _⟩
  case round =>
    obtain ⟨k, hk, rfl, rfl, hbel⟩ := hrel
    have HB := hid hbel
    clear hbel
    by_cases hkl : k < st.length
    · have hkx : k < xs.length := by omega
      obtain ⟨b, o, A', c', rfl, hlt, hc0, hc1, hc2, hc3, hr⟩ := (HA.out.below HB.out).atStep hkx
      obtain ⟨sb, so, hS1, slt, hsc⟩ := HS.out (by intro e; rw [e] at hkl; exact absurd hkl (by simp))
      subst hS1
      have k1 : wr.cell? ⟨sb, so + k, none⟩ = some (.int .i64 st[k]) := (HB.out.cell (p := ⟨sb, so + k, none⟩) slt).trans (hsc k _ (List.getElem?_eq_getElem hkl))
      have b1 := HBD.out k hkl
      have b2 := step_hours HH.out hkx
      have b3 := step_clamps HH.out hkx
      have b4 := usedTo_bd HH.out st t k (by omega)
      have w1 : IntKind.i64.wrap (st[k] + xs[k].fHours) = st[k] + xs[k].fHours := IntWalk.i64_in _ (by omega)
      have w2 : IntKind.i64.wrap (st[k] + xs[k].fHours - 1) = st[k] + xs[k].fHours - 1 := IntWalk.i64_in _ (by omega)
      have w3 : IntKind.i64.wrap (usedTo xs st t k + xs[k].fClamps) = usedTo xs st t k + xs[k].fClamps := IntWalk.i64_in _ (by omega)
      have q0 : (0 : Int) ≤ (k : Int) := by omega
      have q1 : (k : Int) < xs.length := by omega
      have q2 : (k : Int) < st.length := by omega
      have q3 : (0 : Int) ≤ st[k] + xs[k].fHours := by omega
      have HN := hid (show usedTo xs st t (k + 1) = usedTo xs st t k + (if st[k] ≤ t ∧ t < st[k] + xs[k].fHours then xs[k].fClamps else 0) by
        simp only [usedTo]
        rw [gI_at hkl, hN_at hkx, cN_at hkx])
      clear hr hsc
      cases c2 : inB t st[k] (st[k] + xs[k].fHours - 1)
      · have c3 := hid (show ¬ (st[k] ≤ t ∧ t < st[k] + xs[k].fHours) from fun h => by rw [inB_iff.2 ⟨h.1, by omega⟩] at c2; cases c2)
        go_wp2_with (go_at_call 123; refine (within_eq c2 _).mono ?_; rintro e w' ⟨rfl, rfl⟩)
        go_roundw
        case rel => exact ⟨k + 1, by omega, by go_num, by rw [HN.out, if_neg c3.out, Int.add_zero], HB.out⟩
        case measure => simp [intOf]; omega
      · have c3 := hid (show st[k] ≤ t ∧ t < st[k] + xs[k].fHours by have := inB_iff.1 c2; omega)
        go_wp2_with (go_at_call 123; refine (within_eq c2 _).mono ?_; rintro e w' ⟨rfl, rfl⟩)
        go_roundw
        case rel => exact ⟨k + 1, by omega, by go_num, by rw [HN.out, if_pos c3.out], HB.out⟩
        case measure => simp [intOf]; omega
    · have hk2 : k = st.length := by omega
      subst hk2
      go_wp2_with fail
      go_ret
      exact ⟨rfl, HB.out⟩


set_option maxHeartbeats 1600000 in
set_option maxRecDepth 100000 in
theorem room_ok (A : Option Addr) (c : Nat) (xs : List DStep) (S : Option Addr) (cS : Nat) (st : List Int) (t M : Int) (w : World) (hA : NestAt 1 hdStep inStep w A xs) (hh : StepsTo xs xs.length) (hn : xs.length ≤ 12) (hS : IntsAt w S st) (hsl : st.length < xs.length) (hb : Bd st) (ht0 : 0 ≤ t) (ht1 : t ≤ 50000) (hM0 : 0 ≤ M) (hM1 : M ≤ 240) :
    Calls Try.prog 181 #[.slice A xs.length c, .slice S st.length cS, .int .i64 t, .int .i64 M] w fun e w' => e = .returned (.bool (roomN xs st st.length M t)) ∧ Below w.heap.size w w' := by
  obtain ⟨b, o, A', c', rfl, hlt, hc0, hc1, hc2, hc3, hr⟩ := hA.atStep hsl
  have HH := hid hh
  have HA := hid hA
  have HS := hid hS
  have HBD := hid hb
  have b2 := step_hours hh hsl
  have b3 := step_clamps hh hsl
  obtain ⟨N, hN⟩ : ∃ N : Nat, xs[st.length].fHours = (N : Int) := ⟨xs[st.length].fHours.toNat, by omega⟩
  have HR := hid (show roomN xs st st.length M t = roomTo xs st (M - xs[st.length].fClamps) t N by rw [roomN, cN_at hsl, hN_at hsl, hN, Int.toNat_natCast])
  rw [hN] at b2 hc1
  obtain ⟨C, hC⟩ : ∃ C : Int, xs[st.length].fClamps = C := ⟨_, rfl⟩
  rw [hC] at hc2 b3 HR
  have NC := hid (HasC.new w [.string xs[st.length].fId, .int .i64 N, .int .i64 C, .slice A' xs[st.length].fIn.length c'] 146)
  have q0 : (0 : Int) ≤ (st.length : Int) := by omega
  have q1 : (st.length : Int) < xs.length := by omega
  clear hA hh hS hb hN hC hr
  go_enter Try.func181, Try.ntmps181
  go_wp2_with fail
  go_loopw [10] (fun h wr => ∃ d : Nat, d ≤ N ∧ h = .int .i64 (t + (d : Int)) ∧ roomTo xs st (M - C) t d = true ∧ Below (w.alloc (.cells #[.string xs[st.length].fId, .int .i64 N, .int .i64 C, .slice A' xs[st.length].fIn.length c'] 146)).heap.size (w.alloc (.cells #[.string xs[st.length].fId, .int .i64 N, .int .i64 C, .slice A' xs[st.length].fIn.length c'] 146)) wr) (fun h _ => (t + (N : Int) - intOf h).toNat)
  case atStart => exact ⟨0, Nat.zero_le _, by simp, rfl, Below.refl _ _⟩
  case round =>
    obtain ⟨d, hd, rfl, htrue, hbel⟩ := hrel
    have HT := hid htrue
    have HB := hid hbel
    have HC := NC.out.below HB.out
    have n1 := HC.2 1 _ rfl
    have n2 := HC.2 2 _ rfl
    have BW := hid (show Below w.heap.size w wr from (below_alloc w _).trans (HB.out.mono (below_alloc w _).size))
    clear htrue hbel
    by_cases hdl : d < N
    · have u1 := usedTo_bd HH.out st (t + (d : Int)) st.length (by omega)
      have e9 : (t + (d : Int)) < t + (N : Int) := by omega
      by_cases hu : usedTo xs st (t + (d : Int)) st.length ≤ M - C
      · have HS2 := hid (show roomTo xs st (M - C) t (d + 1) = true by simp only [roomTo, HT.out, decide_eq_true hu, Bool.and_self])
        have e1 : ¬ (M < usedTo xs st (t + (d : Int)) st.length + C) := by omega
        have hbl : w.heap.size < wr.heap.size := HC.1
        have w4 : IntKind.i64.wrap (usedTo xs st (t + (d : Int)) st.length + C) = usedTo xs st (t + (d : Int)) st.length + C := IntWalk.i64_in _ (by omega)
        clear HC
        go_wp2_with fail
        go_region_held3 (fun w' => (True ∧ Below wr.heap.size wr w') ∧ w'.cell? ⟨w.heap.size, 2, none⟩ = some (.int .i64 C))
          (first | exact ⟨⟨trivial, (Below.refl _ _).drew⟩, n2⟩ | exact keepM1 hbl ‹_ ∧ _› ‹Below _ _ _›)
          ((go_at_call 202; refine (used_ok _ _ xs S cS st _ _ ((HA.out.below BW.out).below (And.right (And.left ‹(True ∧ Below _ _ _) ∧ _›))) HH.out hn ((HS.out.below BW.out).below (And.right (And.left ‹(True ∧ Below _ _ _) ∧ _›))) (by omega) HBD.out (by omega) (by omega)).mono ?_; rintro e wz0 ⟨rfl, hb6⟩))
        have hh0 := ‹(_ ∧ Below _ _ wz0) ∧ _›
        obtain ⟨⟨_, hB⟩, _⟩ := hh0
        clear w4
        have B5 := hid (HB.out.trans (hB.mono HB.out.size))
        clear hB
        go_wp2_with fail
        go_roundw
        case rel => exact ⟨d + 1, by omega, by go_num, HS2.out, B5.out⟩
        case measure => simp [intOf]; omega
      · have HF := hid (roomTo_false (t := t) hdl hu)
        have e1 : M < usedTo xs st (t + (d : Int)) st.length + C := by omega
        have hbl : w.heap.size < wr.heap.size := HC.1
        have w4 : IntKind.i64.wrap (usedTo xs st (t + (d : Int)) st.length + C) = usedTo xs st (t + (d : Int)) st.length + C := IntWalk.i64_in _ (by omega)
        clear HC
        go_wp2_with fail
        go_region_held3 (fun w' => (True ∧ Below wr.heap.size wr w') ∧ w'.cell? ⟨w.heap.size, 2, none⟩ = some (.int .i64 C))
          (first | exact ⟨⟨trivial, (Below.refl _ _).drew⟩, n2⟩ | exact keepM1 hbl ‹_ ∧ _› ‹Below _ _ _›)
          ((go_at_call 202; refine (used_ok _ _ xs S cS st _ _ ((HA.out.below BW.out).below (And.right (And.left ‹(True ∧ Below _ _ _) ∧ _›))) HH.out hn ((HS.out.below BW.out).below (And.right (And.left ‹(True ∧ Below _ _ _) ∧ _›))) (by omega) HBD.out (by omega) (by omega)).mono ?_; rintro e wz0 ⟨rfl, hb6⟩))
        have hh0 := ‹(_ ∧ Below _ _ wz0) ∧ _›
        obtain ⟨⟨_, hB⟩, _⟩ := hh0
        clear w4
        have B5 := hid (below_trans BW.out hB)
        clear hB
        go_wp2_with fail
        go_ret
        exact ⟨ret_bool (by rw [HR.out, HF.out]), B5.out⟩
    · have hd2 : d = N := by omega
      subst hd2
      clear HC
      go_wp2_with fail
      go_ret
      exact ⟨ret_bool (by rw [HR.out, HT.out]), BW.out⟩


/-- a list of numbers in new memory and whether it is one -/
def RetIB (w : World) (r : List Int × Bool) (e : Ending) (w' : World) : Prop :=
  ∃ A c, e = .returned (.tuple #[.slice A r.1.length c, .bool r.2]) ∧ w'.ownsRow w.heap.size 2 1 (.slice A r.1.length c) r.1.length (r.1.map (Value.int .i64)) ∧ Below w.heap.size w w'
theorem RetIB.nil {w w' : World} {r : List Int × Bool} {c : Bool} (h : r = ([], c)) (hb : Below w.heap.size w w') : RetIB w r (.returned (.tuple #[.slice none 0 0, .bool c])) w' := by
  subst h
  exact ⟨none, 0, rfl, World.ownsRow_nil _ _ _ _, hb⟩
theorem RetIB.own {w w' : World} {r : List Int × Bool} {c : Bool} {v : Value} {l : List Int} (h : r = (l, c)) (ho : w'.ownsRow w.heap.size 2 1 v l.length (l.map (Value.int .i64))) (hb : Below w.heap.size w w') : RetIB w r (.returned (.tuple #[v, .bool c])) w' := by
  subst h
  obtain ⟨A, k, he, ho, _, hb⟩ := RetI.own ho hb
  injection he with he
  subst he
  exact ⟨A, k, rfl, ho, hb⟩
theorem room_eq {i : Nat} {v : Bool} (A : Option Addr) (c : Nat) (xs : List DStep) (S : Option Addr) (cS : Nat) (st : List Int) (t M : Int) (w : World) (hA : NestAt 1 hdStep inStep w A xs) (hh : StepsTo xs xs.length) (hn : xs.length ≤ 12) (hS : IntsAt w S st) (hl : st.length = i) (hsl : i < xs.length) (hb : Bd st) (ht0 : 0 ≤ t) (ht1 : t ≤ 50000) (hM0 : 0 ≤ M) (hM1 : M ≤ 240) (hv : roomN xs st i M t = v) :
    Calls Try.prog 181 #[.slice A xs.length c, .slice S st.length cS, .int .i64 t, .int .i64 M] w fun e w' => e = .returned (.bool v) ∧ Below w.heap.size w w' := by
  subst hl hv
  exact room_ok A c xs S cS st t M w hA hh hn hS hsl hb ht0 ht1 hM0 hM1

set_option maxHeartbeats 1600000 in
set_option maxRecDepth 100000 in
theorem planned_ok (A : Option Addr) (c : Nat) (xs : List DStep) (M : Int) (w : World) (hA : NestAt 1 hdStep inStep w A xs) (hh : StepsTo xs xs.length) (hn : xs.length ≤ 12) (hM0 : 0 ≤ M) (hM1 : M ≤ 240) :
    Calls Try.prog 125 #[.slice A xs.length c, .int .i64 M] w (RetIB w (planN xs M)) := by
  have HH := hid hh
  have HA := hid hA
  clear hA hh
  go_enter Try.func125, Try.ntmps125
  go_wp2_with fail
  go_loopw [6, 13] (fun v m wr => ∃ (k : Nat) (Ac : Option Addr) (cc : Nat), k ≤ xs.length ∧ m = .int .i64 k ∧ v = .slice Ac (planTo xs M k).length cc ∧ clampsTo xs M k = true ∧ wr.ownsRow w.heap.size 2 1 (.slice Ac (planTo xs M k).length cc) (planTo xs M k).length ((planTo xs M k).map (Value.int .i64)) ∧ Below w.heap.size w wr) (fun _ m _ => xs.length - (intOf m).toNat)
  case atStart => exact ⟨0, _, _, Nat.zero_le _, rfl, rfl, rfl, World.ownsRow_lit _ _ 0 (Nat.le_refl _) (by unfold maxLen; omega) rfl, below_alloc _ _⟩
  case round =>
    obtain ⟨k, Ac, cc, hk, rfl, rfl, hcl, hown, hbel⟩ := hrel
    have HO := hid hown
    have HB := hid hbel
    have HCL := hid hcl
    have LK := hid (planTo_len xs M k)
    have hlk : (planTo xs M k).length ≤ 12 := by rw [planTo_len]; omega
    clear hown hbel hcl
    by_cases hkl : k < xs.length
    · rename World => wo
      obtain ⟨b, o, A', c', rfl, hlt, hc0, hc1, hc2, hc3, hr⟩ := (HA.out.below HB.out).atStep hkl
      have NC := hid (HasC.new wo [.string xs[k].fId, .int .i64 xs[k].fHours, .int .i64 xs[k].fClamps, .slice A' xs[k].fIn.length c'] 146)
      have n2 := NC.out.2 2 _ rfl
      have q0 : (0 : Int) ≤ (k : Int) := by omega
      have q1 : (k : Int) < xs.length := by omega
      clear hr
      by_cases hcm : xs[k].fClamps ≤ M
      · have e1 : ¬ (M < xs[k].fClamps) := by omega
        have hcm2 := hid (show cN xs k ≤ M by rw [cN_at hkl]; exact hcm)
        have HBD := hid (plan_bd HH.out k hk HCL.out)
        have RB := readyTo_bd HH.out hkl HBD.out (by rw [LK.out]; exact Nat.le_refl _) _ (Nat.le_refl _)
        have B0 := hid (HB.out.alloc HB.out.size (.cells #[.string xs[k].fId, .int .i64 xs[k].fHours, .int .i64 xs[k].fClamps, .slice A' xs[k].fIn.length c'] 146))
        have HP := hid (show placeN xs M (planTo xs M k) k = findH (roomN xs (planTo xs M k) k M) (readyTo xs (planTo xs M k) xs[k].fIn xs[k].fIn.length) 2401 by rw [placeN, readyN_at hkl])
        have OB := hid (HO.out.alloc (.cells #[.string xs[k].fId, .int .i64 xs[k].fHours, .int .i64 xs[k].fClamps, .slice A' xs[k].fIn.length c'] 146))
        obtain ⟨r, hr0⟩ : ∃ r, r = readyTo xs (planTo xs M k) xs[k].fIn xs[k].fIn.length := ⟨_, rfl⟩
        rw [← hr0] at RB HP
        have HR0 := hid hr0
        clear hr0 n2
        have n2 := NC.out.2 2 _ rfl
        go_wp2_with (go_at_call 180; refine (ready_ok _ _ xs Ac cc (planTo xs M k) k _ (HA.out.below B0.out) HH.out hn hkl (ints_own OB.out) (by rw [LK.out]; exact Nat.le_refl _) HBD.out (by omega)).mono ?_; rintro e w5 ⟨rfl, hb5⟩; rw [← HR0.out]; have O5 := hid (own_below OB.out hb5); have B5 := hid (below_trans B0.out hb5); clear hb5)
        rename World => w5
        go_loopw [9] (fun h ws => ∃ m : Nat, h = .int .i64 (r + (m : Int)) ∧ r + (m : Int) ≤ 200 * (k : Int) ∧ placeN xs M (planTo xs M k) k = findH (roomN xs (planTo xs M k) k M) (r + (m : Int)) (2401 - m) ∧ Below w5.heap.size w5 ws) (fun h _ => (200 * (k : Int) - intOf h).toNat)
        case atStart => exact ⟨0, by simp, by simpa using RB.2, by simpa using HP.out, Below.refl _ _⟩
        case round =>
          obtain ⟨m, rfl, hm, hpl, hbel⟩ := hrel
          have HPL := hid hpl
          have HW := hid hbel
          clear hpl hbel
          have B6 := hid (below_trans B5.out HW.out)
          have O6 := hid (own_below O5.out HW.out)
          have hm24 : m ≤ 2400 := by omega
          cases c3 : roomN xs (planTo xs M k) k M (r + (m : Int))
          · have HPN := hid (show placeN xs M (planTo xs M k) k = findH (roomN xs (planTo xs M k) k M) (r + ((m + 1 : Nat) : Int)) (2401 - (m + 1)) by
              rw [HPL.out, show 2401 - m = (2401 - (m + 1)) + 1 by omega, findH_no c3]
              congr 1
              omega)
            have hne : r + (m : Int) < 200 * (k : Int) := by
              rcases (show r + (m : Int) < 200 * (k : Int) ∨ 200 * (k : Int) ≤ r + (m : Int) by omega) with h | h
              · exact h
              · rw [place_room HH.out HBD.out LK.out hkl hcm2.out h] at c3
                cases c3
            have C3 := hid c3
            clear c3
            go_wp2_with (go_at_call 181; refine (room_eq _ _ xs Ac cc (planTo xs M k) _ M _ (HA.out.below B6.out) HH.out hn (ints_own O6.out) LK.out hkl HBD.out (by omega) (by omega) hM0 hM1 C3.out).mono ?_; rintro e w7 ⟨rfl, hb7⟩; have B7 := hid (below_trans HW.out hb7); clear hb7)
            go_roundw
            case rel => exact ⟨m + 1, by go_num, by omega, HPN.out, B7.out⟩
            case measure => simp [intOf]; omega
          · have HPE := hid (show placeN xs M (planTo xs M k) k = r + (m : Int) by rw [HPL.out]; exact findH_yes c3)
            have HE := hid (show (planTo xs M k).map (Value.int .i64) ++ [.int .i64 (r + (m : Int))] = (planTo xs M (k + 1)).map (Value.int .i64) by
              rw [planTo, List.map_append, HPE.out]
              rfl)
            have LE2 := hid (show (planTo xs M k).length + 1 = (planTo xs M (k + 1)).length by rw [planTo_len, planTo_len])
            have HC2 := hid (clampsTo_succ HCL.out hcm2.out)
            have C3 := hid c3
            clear c3
            go_wp2_with (first
              | (at_builtin; refine wpList_app (w0 := w) rfl (.tmp 34) (.tmp 36) 23 rfl w.heap.size 2 (.int .i64 0) 1 8 Try.underlying23 infoI rfl (by decide) _ _ _ rfl O7.out #[.int .i64 (r + (m : Int))] 1 1 rfl rfl (by simp [Value.oneCell']) (by omega) B7.out.size B7.out ?_; intro v1 w8 hown1 hbel1 hz1 _; obtain ⟨g8, c8, rfl, hf8⟩ := own_form hown1 (by omega))
              | (go_at_call 181; refine (room_eq _ _ xs Ac cc (planTo xs M k) _ M _ (HA.out.below B6.out) HH.out hn (ints_own O6.out) LK.out hkl HBD.out (by omega) (by omega) hM0 hM1 C3.out).mono ?_; rintro e w7 ⟨rfl, hb7⟩; have B7 := hid (below_trans B6.out hb7); have O7 := hid (own_below O6.out hb7); clear hb7))
            go_roundw
            case rel => exact ⟨k + 1, some ⟨g8, 0, none⟩, c8, by omega, by go_num, by rw [← LE2.out], HC2.out, by rw [← HE.out, ← LE2.out]; exact hown1, hbel1⟩
            case measure => simp [intOf]; omega
      · have e1 : M < xs[k].fClamps := by omega
        have HF := hid (show planN xs M = ([], false) by rw [planN, clampsTo_no hkl (by rw [cN_at hkl]; exact hcm)]; rfl)
        have B0 := hid (HB.out.alloc HB.out.size (.cells #[.string xs[k].fId, .int .i64 xs[k].fHours, .int .i64 xs[k].fClamps, .slice A' xs[k].fIn.length c'] 146))
        go_wp2_with fail
        go_ret2
        exact RetIB.nil HF.out B0.out
    · have hk2 : k = xs.length := by omega
      subst hk2
      have HF := hid (show planN xs M = (planTo xs M xs.length, true) by rw [planN, HCL.out]; rfl)
      go_wp2_with fail
      go_ret2
      exact RetIB.own HF.out HO.out HB.out

end Go.Proofs.Ytnekigpeknenjaa
