/- Clamps: the reference. -/
import Derived.Test.YtnekigpeknenjaaClamp
import Derived.Test.YtnekigpeknenjaaEarlyS
import Derived.Deep.RegionHeld3
namespace Go.Proofs.Ytnekigpeknenjaa
open Go.RowKit
set_option linter.unusedVariables false


set_option maxHeartbeats 1600000 in
set_option maxRecDepth 100000 in
theorem l17Used_ok (A : Option Addr) (c : Nat) (xs : List DStep) (S : Option Addr) (cS : Nat) (st : List Int) (t : Int) (w : World) (hA : NestAt 1 hdStep inStep w A xs) (hh : StepsTo xs xs.length) (hn : xs.length ≤ 12) (hS : IntsAt w S st) (hsl : st.length ≤ xs.length) (hb : Bd st) (ht0 : 0 ≤ t) (ht1 : t ≤ 100000) :
    Calls Try.prog 201 #[.slice A xs.length c, .slice S st.length cS, .int .i64 t] w fun e w' => e = .returned (.int .i64 (usedTo xs st t st.length)) ∧ Below w.heap.size w w' := by
  have HH := hid hh
  have HA := hid hA
  have HS := hid hS
  have HBD := hid hb
  have hst : st.length ≤ 1048576 := by omega
  clear hA hh hS hb
  go_enter Try.func201, Try.ntmps201
  go_wp2_with fail
  go_loopw [7, 8] (fun h m wr => ∃ k : Nat, k ≤ st.length ∧ m = .int .i64 k ∧ h = .int .i64 (usedTo xs st t k) ∧ Below w.heap.size w wr) (fun _ m _ => st.length - (intOf m).toNat)
  case atStart => exact ⟨0, Nat.zero_le _, rfl, rfl, Below.refl _ _⟩
  case round =>
    obtain ⟨k, hk, rfl, rfl, hbel⟩ := hrel
    have HB := hid hbel
    clear hbel
    by_cases hkl : k < st.length
    · have hkx : k < xs.length := by omega
      obtain ⟨b, o, A', c', rfl, hlt, hc0, hc1, hc2, hc3, hr⟩ := (HA.out.below HB.out).atStep hkx
      obtain ⟨sb, so, hS1, slt, hsc⟩ := HS.out (by intro e; rw [e] at hkl; exact absurd hkl (by simp))
      subst hS1
      have k1 : wr.cell? ⟨sb, so + k, none⟩ = some (.int .i64 st[k]) := (HB.out.cell (p := ⟨sb, so + k, none⟩) slt).trans (hsc k _ (List.getElem?_eq_getElem hkl))
      have b1 := HBD.out k hkl
      have b2 := step_hours HH.out hkx
      have b3 := step_clamps HH.out hkx
      have b4 := usedTo_bd HH.out st t k (by omega)
      have w1 : IntKind.i64.wrap (st[k] + xs[k].fHours) = st[k] + xs[k].fHours := IntWalk.i64_in _ (by omega)
      have w2 : IntKind.i64.wrap (st[k] + xs[k].fHours - 1) = st[k] + xs[k].fHours - 1 := IntWalk.i64_in _ (by omega)
      have w3 : IntKind.i64.wrap (usedTo xs st t k + xs[k].fClamps) = usedTo xs st t k + xs[k].fClamps := IntWalk.i64_in _ (by omega)
      have q0 : (0 : Int) ≤ (k : Int) := by omega
      have q1 : (k : Int) < xs.length := by omega
      have q2 : (k : Int) < st.length := by omega
      have q3 : (0 : Int) ≤ st[k] + xs[k].fHours := by omega
      have HN := hid (show usedTo xs st t (k + 1) = usedTo xs st t k + (if st[k] ≤ t ∧ t < st[k] + xs[k].fHours then xs[k].fClamps else 0) by
        simp only [usedTo]
        rw [gI_at hkl, hN_at hkx, cN_at hkx])
      clear hr hsc
      by_cases g1 : st[k] ≤ t
      · by_cases g2 : t < st[k] + xs[k].fHours
        · go_wp2_with fail
          go_quiet (fail)
          go_wp2_with fail
          go_roundw
          case rel => exact ⟨k + 1, by omega, by go_num, by rw [HN.out, if_pos ⟨g1, g2⟩], below_drewN' HB.out _⟩
          case measure => simp [intOf]; omega
        · have G := hid (show ¬ (st[k] ≤ t ∧ t < st[k] + xs[k].fHours) from fun h => g2 h.2)
          go_wp2_with fail
          go_quiet (fail)
          go_wp2_with fail
          go_roundw
          case rel => exact ⟨k + 1, by omega, by go_num, by rw [HN.out, if_neg G.out, Int.add_zero], below_drewN' HB.out _⟩
          case measure => simp [intOf]; omega
      · have d1 : decide (st[k] ≤ t) = false := by simp; omega
        have G := hid (show ¬ (st[k] ≤ t ∧ t < st[k] + xs[k].fHours) from fun h => g1 h.1)
        go_wp2_with fail
        go_quiet (fail)
        go_wp2_with fail
        go_roundw
        case rel => exact ⟨k + 1, by omega, by go_num, by rw [HN.out, if_neg G.out, Int.add_zero], below_drewN' HB.out _⟩
        case measure => simp [intOf]; omega
    · have hk2 : k = st.length := by omega
      subst hk2
      go_wp2_with fail
      go_ret
      exact ⟨rfl, HB.out⟩


set_option maxHeartbeats 1600000 in
set_option maxRecDepth 100000 in
theorem l17Free_ok (A : Option Addr) (c : Nat) (xs : List DStep) (S : Option Addr) (cS : Nat) (st : List Int) (t M : Int) (N : Nat) (w : World) (hA : NestAt 1 hdStep inStep w A xs) (hh : StepsTo xs xs.length) (hn : xs.length ≤ 12) (hS : IntsAt w S st) (hsl : st.length ≤ xs.length) (hb : Bd st) (ht0 : 0 ≤ t) (ht1 : t ≤ 50000) (hN : N ≤ 200) :
    Calls Try.prog 178 #[.slice A xs.length c, .slice S st.length cS, .int .i64 t, .int .i64 N, .int .i64 M] w fun e w' => e = .returned (.bool (roomTo xs st M t N)) ∧ Below w.heap.size w w' := by
  have HH := hid hh
  have HA := hid hA
  have HS := hid hS
  have HBD := hid hb
  clear hA hh hS hb
  go_enter Try.func178, Try.ntmps178
  go_wp2_with fail
  go_loopw [11] (fun h wr => ∃ d : Nat, d ≤ N ∧ h = .int .i64 (t + (d : Int)) ∧ roomTo xs st M t d = true ∧ Below w.heap.size w wr) (fun h _ => (t + (N : Int) - intOf h).toNat)
  case atStart => exact ⟨0, Nat.zero_le _, by simp, rfl, Below.refl _ _⟩
  case round =>
    obtain ⟨d, hd, rfl, htrue, hbel⟩ := hrel
    have HT := hid htrue
    have HB := hid hbel
    clear htrue hbel
    by_cases hdl : d < N
    · have u1 := usedTo_bd HH.out st (t + (d : Int)) st.length (by omega)
      have e9 : (t + (d : Int)) < t + (N : Int) := by omega
      by_cases hu : usedTo xs st (t + (d : Int)) st.length ≤ M
      · have HS2 := hid (show roomTo xs st M t (d + 1) = true by simp only [roomTo, HT.out, decide_eq_true hu, Bool.and_self])
        have e1 : ¬ (M < usedTo xs st (t + (d : Int)) st.length) := by omega
        go_wp2_with (go_at_call 201; refine (l17Used_ok _ _ xs S cS st _ _ (HA.out.below HB.out) HH.out hn (HS.out.below HB.out) (by omega) HBD.out (by omega) (by omega)).mono ?_; rintro e w5 ⟨rfl, hb5⟩; have B5 := hid (below_trans HB.out hb5); clear hb5)
        go_roundw
        case rel => exact ⟨d + 1, by omega, by go_num, HS2.out, B5.out⟩
        case measure => simp [intOf]; omega
      · have HF := hid (roomTo_false (t := t) hdl hu)
        have e1 : M < usedTo xs st (t + (d : Int)) st.length := by omega
        go_wp2_with (go_at_call 201; refine (l17Used_ok _ _ xs S cS st _ _ (HA.out.below HB.out) HH.out hn (HS.out.below HB.out) (by omega) HBD.out (by omega) (by omega)).mono ?_; rintro e w5 ⟨rfl, hb5⟩; have B5 := hid (below_trans HB.out hb5); clear hb5)
        go_ret
        exact ⟨ret_bool (by rw [HF.out]), B5.out⟩
    · have hd2 : d = N := by omega
      subst hd2
      go_wp2_with fail
      go_ret
      exact ⟨ret_bool (by rw [HT.out]), HB.out⟩


theorem l17Free_eq {v : Bool} (A : Option Addr) (c : Nat) (xs : List DStep) (S : Option Addr) (cS : Nat) (st : List Int) (t M : Int) (N : Nat) (w : World) (hA : NestAt 1 hdStep inStep w A xs) (hh : StepsTo xs xs.length) (hn : xs.length ≤ 12) (hS : IntsAt w S st) (hsl : st.length ≤ xs.length) (hb : Bd st) (ht0 : 0 ≤ t) (ht1 : t ≤ 50000) (hN : N ≤ 200) (hv : roomTo xs st M t N = v) :
    Calls Try.prog 178 #[.slice A xs.length c, .slice S st.length cS, .int .i64 t, .int .i64 N, .int .i64 M] w fun e w' => e = .returned (.bool v) ∧ Below w.heap.size w w' := by
  subst hv
  exact l17Free_ok A c xs S cS st t M N w hA hh hn hS hsl hb ht0 ht1 hN


set_option maxHeartbeats 1600000 in
set_option maxRecDepth 100000 in
theorem l17Clamps_ok (A : Option Addr) (c : Nat) (xs : List DStep) (M : Int) (w : World) (hA : NestAt 1 hdStep inStep w A xs) (hh : StepsTo xs xs.length) (hn : xs.length ≤ 12) :
    Calls Try.prog 118 #[.slice A xs.length c, .int .i64 M] w fun e w' => e = .returned (.bool (clampsTo xs M xs.length)) ∧ Below w.heap.size w w' := by
  have HH := hid hh
  have HA := hid hA
  clear hA hh
  go_enter Try.func118, Try.ntmps118
  go_wp2_with fail
  go_loopw [5] (fun m wr => ∃ k : Nat, k ≤ xs.length ∧ m = .int .i64 k ∧ clampsTo xs M k = true ∧ Below w.heap.size w wr) (fun m _ => xs.length - (intOf m).toNat)
  case atStart => exact ⟨0, Nat.zero_le _, rfl, rfl, Below.refl _ _⟩
  case round =>
    obtain ⟨k, hk, rfl, hcl, hbel⟩ := hrel
    have HCL := hid hcl
    have HB := hid hbel
    clear hcl hbel
    by_cases hkl : k < xs.length
    · obtain ⟨b, o, A', c', rfl, hlt, hc0, hc1, hc2, hc3, hr⟩ := (HA.out.below HB.out).atStep hkl
      have q0 : (0 : Int) ≤ (k : Int) := by omega
      have q1 : (k : Int) < xs.length := by omega
      clear hr
      by_cases hcm : xs[k].fClamps ≤ M
      · have e1 : ¬ (M < xs[k].fClamps) := by omega
        have HC2 := hid (clampsTo_succ HCL.out (show cN xs k ≤ M by rw [cN_at hkl]; exact hcm))
        go_wp2_with fail
        go_roundw
        case rel => exact ⟨k + 1, by omega, by go_num, HC2.out, HB.out⟩
        case measure => simp [intOf]; omega
      · have e1 : M < xs[k].fClamps := by omega
        have HF := hid (clampsTo_no hkl (show ¬ cN xs k ≤ M by rw [cN_at hkl]; exact hcm))
        go_wp2_with fail
        go_ret
        exact ⟨ret_bool HF.out.symm, HB.out⟩
    · have hk2 : k = xs.length := by omega
      subst hk2
      go_wp2_with fail
      go_ret
      exact ⟨ret_bool HCL.out.symm, HB.out⟩


set_option maxHeartbeats 1600000 in
set_option maxRecDepth 100000 in
theorem l17Plan_ok (A : Option Addr) (c : Nat) (xs : List DStep) (M : Int) (w : World) (hA : NestAt 1 hdStep inStep w A xs) (hh : StepsTo xs xs.length) (hn : xs.length ≤ 12) (hM0 : 0 ≤ M) (hM1 : M ≤ 240) (hcl : clampsTo xs M xs.length = true) :
    Calls Try.prog 120 #[.slice A xs.length c, .int .i64 M] w (RetI w (planTo xs M xs.length)) := by
  have HH := hid hh
  have HA := hid hA
  have HALL := hid (clampsTo_at hcl)
  have HCT := hid (show ∀ k, k ≤ xs.length → clampsTo xs M k = true from fun k => by
    induction k with
    | zero => exact fun _ => rfl
    | succ k ih => exact fun h => clampsTo_succ (ih (by omega)) (clampsTo_at hcl k (by omega)))
  clear hA hh hcl
  go_enter Try.func120, Try.ntmps120
  go_wp2_with fail
  go_loopw [5, 6] (fun v m wr => ∃ (k : Nat) (Ac : Option Addr) (cc : Nat), k ≤ xs.length ∧ m = .int .i64 k ∧ v = .slice Ac (planTo xs M k).length cc ∧ wr.ownsRow w.heap.size 2 1 (.slice Ac (planTo xs M k).length cc) (planTo xs M k).length ((planTo xs M k).map (Value.int .i64)) ∧ Below w.heap.size w wr) (fun _ m _ => xs.length - (intOf m).toNat)
  case atStart => exact ⟨0, _, _, Nat.zero_le _, rfl, rfl, World.ownsRow_lit _ _ 0 (Nat.le_refl _) (by unfold maxLen; omega) rfl, below_alloc _ _⟩
  case round =>
    obtain ⟨k, Ac, cc, hk, rfl, rfl, hown, hbel⟩ := hrel
    have HO := hid hown
    have HB := hid hbel
    have LK := hid (planTo_len xs M k)
    have hl2 : (planTo xs M k).length ≤ 12 := by rw [planTo_len]; omega
    clear hown hbel
    by_cases hkl : k < xs.length
    · rename World => wo
      have q0 : (0 : Int) ≤ (k : Int) := by omega
      have q1 : (k : Int) < xs.length := by omega
      have HBD := hid (plan_bd HH.out k hk (HCT.out k hk))
      have hcm2 := hid (show cN xs k ≤ M from HALL.out k hkl)
      have l12 : xs[k].fIn.length ≤ 12 := by
        have h1 := rises_length (HH.out k hkl hkl).2.1 (by omega)
        omega
      go_wp2_with fail
      go_loopw [7, 8] (fun h m ws => ∃ q : Nat, q ≤ xs[k].fIn.length ∧ m = .int .i64 q ∧ h = .int .i64 (readyTo xs (planTo xs M k) xs[k].fIn q) ∧ Below wo.heap.size wo ws) (fun _ m _ => xs[k].fIn.length - (intOf m).toNat)
      case atStart => exact ⟨0, Nat.zero_le _, rfl, rfl, Below.refl _ _⟩
      case round =>
        obtain ⟨q, hq, rfl, rfl, hbel⟩ := hrel
        have HW := hid hbel
        clear hbel
        obtain ⟨b, o, A', c', rfl, hlt, hc0, hc1, hc2, hc3, hr⟩ := ((HA.out.below HB.out).below HW.out).atStep hkl
        have HR := hid (rows_ints hr)
        clear hr
        by_cases hql : q < xs[k].fIn.length
        · obtain ⟨ca, cb⟩ := step_after HH.out hkl hql
          obtain ⟨p, hp⟩ : ∃ p : Nat, xs[k].fIn[q] = (p : Int) := ⟨xs[k].fIn[q].toNat, by omega⟩
          have hpl : p < xs.length := by omega
          have hps : p < (planTo xs M k).length := by have := LK.out; omega
          obtain ⟨rb, ro, hA1, rlt, hrc⟩ := HR.out (by intro e; rw [e] at hql; exact absurd hql (by simp))
          subst hA1
          obtain ⟨sb, so, hS1, slt, hsc⟩ := (ints_own (own_below HO.out HW.out)) (by intro e; rw [e] at hps; exact absurd hps (by simp))
          subst hS1
          obtain ⟨b2, o2, _, _, hA2, blt, _, ph, _, _, _⟩ := ((HA.out.below HB.out).below HW.out).atStep hpl
          injection hA2 with hA2
          injection hA2 with hA2 ho2
          subst hA2 ho2
          have k0 : wr.cell? ⟨rb, ro + q, none⟩ = some (.int .i64 (p : Int)) := by rw [← hp]; exact hrc q _ (List.getElem?_eq_getElem hql)
          have k1 := hsc p _ (List.getElem?_eq_getElem hps)
          have b1 := HBD.out p hps
          have b2 := step_hours HH.out hpl
          have w1 : IntKind.i64.wrap ((planTo xs M k)[p] + xs[p].fHours) = (planTo xs M k)[p] + xs[p].fHours := IntWalk.i64_in _ (by omega)
          have q2 : (0 : Int) ≤ (q : Int) := by omega
          have q3 : (q : Int) < xs[k].fIn.length := by omega
          have p0 : (0 : Int) ≤ (p : Int) := by omega
          have p1 : (p : Int) < xs.length := by omega
          have p2 : (p : Int) < (planTo xs M k).length := by omega
          have HN := hid (show readyTo xs (planTo xs M k) xs[k].fIn (q + 1) = max (readyTo xs (planTo xs M k) xs[k].fIn q) ((planTo xs M k)[p] + xs[p].fHours) by
            simp only [readyTo]
            rw [gI_at hql, hp, Int.toNat_natCast, gI_at hps, hN_at hpl])
          clear hrc hsc hp ca cb
          go_wp2_with fail
          go_quiet ((go_at_call 177; with_reducible exact quiet_left (l00Max_ok _ _ _)))
          go_wp2_with fail
          go_roundw
          case rel => exact ⟨q + 1, by omega, by go_num, by rw [HN.out], below_drewN' HW.out _⟩
          case measure => simp [intOf]; omega
        · have hq2 : q = xs[k].fIn.length := by omega
          subst hq2
          have O5 := hid (own_below HO.out HW.out)
          have B5 := hid (below_trans HB.out HW.out)
          have RB := readyTo_bd HH.out hkl HBD.out (by rw [LK.out]; exact Nat.le_refl _) _ (Nat.le_refl _)
          have HP := hid (show placeN xs M (planTo xs M k) k = findH (roomN xs (planTo xs M k) k M) (readyTo xs (planTo xs M k) xs[k].fIn xs[k].fIn.length) 2401 by rw [placeN, readyN_at hkl])
          obtain ⟨r, hr0⟩ : ∃ r, r = readyTo xs (planTo xs M k) xs[k].fIn xs[k].fIn.length := ⟨_, rfl⟩
          rw [← hr0] at RB HP
          rw [← hr0]
          clear hr0
          have sh := step_hours HH.out hkl
          have sc := step_clamps HH.out hkl
          obtain ⟨N, hN⟩ : ∃ N : Nat, xs[k].fHours = (N : Int) := ⟨xs[k].fHours.toNat, by omega⟩
          have HRT := hid (show ∀ t, roomN xs (planTo xs M k) k M t = roomTo xs (planTo xs M k) (M - xs[k].fClamps) t N from fun t => by rw [roomN, cN_at hkl, hN_at hkl, hN, Int.toNat_natCast])
          have HNN := hid hN
          have hN2 : N ≤ 200 := by omega
          clear hN
          rename World => w5
          go_wp2_with fail
          clear hc0 hc1 hc2 hc3
          go_loopw [7] (fun h ws => ∃ m : Nat, h = .int .i64 (r + (m : Int)) ∧ r + (m : Int) ≤ 200 * (k : Int) ∧ placeN xs M (planTo xs M k) k = findH (roomN xs (planTo xs M k) k M) (r + (m : Int)) (2401 - m) ∧ Below w5.heap.size w5 ws) (fun h _ => (200 * (k : Int) - intOf h).toNat)
          case atStart => exact ⟨0, by simp, by simpa using RB.2, by simpa using HP.out, Below.refl _ _⟩
          case round =>
            obtain ⟨m, rfl, hm, hpl, hbel⟩ := hrel
            have HPL := hid hpl
            have HW5 := hid hbel
            clear hpl hbel
            have B6 := hid (below_trans B5.out HW5.out)
            have O6 := hid (own_below O5.out HW5.out)
            have hm24 : m ≤ 2400 := by omega
            obtain ⟨b, o, A', c', hA1, hlt, hc0, hc1, hc2, hc3, hr⟩ := (HA.out.below B6.out).atStep hkl
            injection hA1 with hA1
            injection hA1 with hA1 ho1
            subst hA1 ho1
            rw [HNN.out] at hc1
            clear hr hc0 hc3
            have w3 : IntKind.i64.wrap (M - xs[k].fClamps) = M - xs[k].fClamps := IntWalk.i64_in _ (by omega)
            cases c3 : roomN xs (planTo xs M k) k M (r + (m : Int))
            · have HPN := hid (show placeN xs M (planTo xs M k) k = findH (roomN xs (planTo xs M k) k M) (r + ((m + 1 : Nat) : Int)) (2401 - (m + 1)) by
                rw [HPL.out, show 2401 - m = (2401 - (m + 1)) + 1 by omega, findH_no c3]
                congr 1
                omega)
              have hne : r + (m : Int) < 200 * (k : Int) := by
                rcases (show r + (m : Int) < 200 * (k : Int) ∨ 200 * (k : Int) ≤ r + (m : Int) by omega) with h | h
                · exact h
                · rw [place_room HH.out HBD.out LK.out hkl hcm2.out h] at c3
                  cases c3
              rw [HRT.out] at c3
              have C3 := hid c3
              clear c3
              go_wp2_with fail
              go_region_held3 (fun w' => (True ∧ Below wr.heap.size wr w') ∧ w'.cell? ⟨b, o + k * 4 + 1, none⟩ = some (.int .i64 (N : Int)) ∧ w'.cell? ⟨b, o + k * 4 + 2, none⟩ = some (.int .i64 xs[k].fClamps))
                (first | exact ⟨⟨trivial, (Below.refl _ _).drew⟩, hc1, hc2⟩ | exact keepM2 hlt hlt ‹_ ∧ _› ‹Below _ _ _›)
                ((go_at_call 178; refine (l17Free_eq _ _ xs Ac cc (planTo xs M k) _ _ N _ ((HA.out.below B6.out).below (And.right (And.left ‹(True ∧ Below _ _ _) ∧ _›))) HH.out hn ((ints_own O6.out).below (And.right (And.left ‹(True ∧ Below _ _ _) ∧ _›))) (by have := LK.out; omega) HBD.out (by omega) (by omega) (by omega) C3.out).mono ?_; rintro e wz0 ⟨rfl, hb6⟩))
              have hh0 := ‹(_ ∧ Below _ _ wz0) ∧ _›
              obtain ⟨⟨_, hB⟩, _, _⟩ := hh0
              have B7 := hid (below_trans HW5.out hB)
              clear hB
              go_wp2_with fail
              go_roundw
              case rel => exact ⟨m + 1, by go_num, by omega, HPN.out, B7.out⟩
              case measure => simp [intOf]; omega
            · have HPE := hid (show placeN xs M (planTo xs M k) k = r + (m : Int) by rw [HPL.out]; exact findH_yes c3)
              have HE := hid (show (planTo xs M k).map (Value.int .i64) ++ [.int .i64 (r + (m : Int))] = (planTo xs M (k + 1)).map (Value.int .i64) by
                rw [planTo, List.map_append, HPE.out]
                rfl)
              have LE2 := hid (show (planTo xs M k).length + 1 = (planTo xs M (k + 1)).length by rw [planTo_len, planTo_len])
              rw [HRT.out] at c3
              have C3 := hid c3
              clear c3
              go_wp2_with fail
              go_region_held3 (fun w' => (True ∧ Below wr.heap.size wr w') ∧ w'.cell? ⟨b, o + k * 4 + 1, none⟩ = some (.int .i64 (N : Int)) ∧ w'.cell? ⟨b, o + k * 4 + 2, none⟩ = some (.int .i64 xs[k].fClamps))
                (first | exact ⟨⟨trivial, (Below.refl _ _).drew⟩, hc1, hc2⟩ | exact keepM2 hlt hlt ‹_ ∧ _› ‹Below _ _ _›)
                ((go_at_call 178; refine (l17Free_eq _ _ xs Ac cc (planTo xs M k) _ _ N _ ((HA.out.below B6.out).below (And.right (And.left ‹(True ∧ Below _ _ _) ∧ _›))) HH.out hn ((ints_own O6.out).below (And.right (And.left ‹(True ∧ Below _ _ _) ∧ _›))) (by have := LK.out; omega) HBD.out (by omega) (by omega) (by omega) C3.out).mono ?_; rintro e wz0 ⟨rfl, hb6⟩))
              have hh0 := ‹(_ ∧ Below _ _ wz0) ∧ _›
              obtain ⟨⟨_, hB⟩, _, _⟩ := hh0
              have B7 := hid (below_trans B6.out hB)
              have O7 := hid (own_below O6.out hB)
              clear hB
              go_wp2_with (at_builtin; refine wpList_app (w0 := w) rfl (.tmp 66) (.tmp 68) 23 rfl w.heap.size 2 (.int .i64 0) 1 8 Try.underlying23 infoI rfl (by decide) _ _ _ rfl O7.out #[.int .i64 (r + (m : Int))] 1 1 rfl rfl (by simp [Value.oneCell']) (by omega) B7.out.size B7.out ?_; intro v1 w8 hown1 hbel1 hz1 _; obtain ⟨g8, c8, rfl, hf8⟩ := own_form hown1 (by omega))
              go_roundw
              case rel => exact ⟨k + 1, some ⟨g8, 0, none⟩, c8, by omega, by go_num, by rw [← LE2.out], by rw [← HE.out, ← LE2.out]; exact hown1, hbel1⟩
              case measure => simp [intOf]; omega
    · have hk2 : k = xs.length := by omega
      subst hk2
      go_wp2_with fail
      go_ret
      exact RetI.own HO.out HB.out

end Go.Proofs.Ytnekigpeknenjaa
