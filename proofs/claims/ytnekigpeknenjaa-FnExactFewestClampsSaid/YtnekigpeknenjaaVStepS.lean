/- Steps of a repair: the reference's test of a list. -/
import Derived.Test.YtnekigpeknenjaaVStep
namespace Go.Proofs.Ytnekigpeknenjaa
open Go.RowKit
set_option linter.unusedVariables false

theorem bytes_eq {s t : ByteArray} (h : s.toList = t.toList) : s = t := by
  rw [ByteArray.toList_eq, ByteArray.toList_eq] at h
  exact WideShapes.bytes_inj h
theorem rises_eq (A : Option Addr) (c : Nat) (ns : List Int) (lo hi : Int) (w : World) (hA : IntsAt w A ns) (hn : ns.length ≤ 9223372036854775807) {r : Bool} (hr : risesB ns lo hi = r) :
    Calls Try.prog 176 #[.slice A ns.length c, .int .i64 lo, .int .i64 hi] w fun e w' => e = .returned (.bool r) ∧ Below w.heap.size w w' := hr ▸ l00Rises_ok A c ns lo hi w hA hn

set_option maxHeartbeats 3200000 in
set_option maxRecDepth 100000 in
theorem l17Ok_ok (A : Option Addr) (c : Nat) (xs : List DStep) (w : World) (hA : NestAt 1 hdStep inStep w A xs) (hok : ∀ x ∈ xs, x.ok) (hn : xs.length ≤ 1048576) (hi : ∀ x ∈ xs, x.fIn.length ≤ 1048576) :
    Calls Try.prog 116 #[.slice A xs.length c] w fun e w' => e = .returned (.bool (stepsB xs)) ∧ Below w.heap.size w w' := by
  have HA := hid hA
  have HK := hid hok
  have HI := hid hi
  clear hA hok hi
  go_enter Try.func116, Try.ntmps116
  go_wp2_with fail
  go_loopw [3] (fun i wr => ∃ k : Nat, k ≤ xs.length ∧ i = .int .i64 k ∧ StepsTo xs k ∧ Below w.heap.size w wr) (fun i _ => xs.length - (intOf i).toNat)
  case atStart => exact ⟨0, Nat.zero_le _, rfl, StepsTo.zero _, Below.refl _ _⟩
  case round =>
    obtain ⟨k, hk, rfl, hall, hbel⟩ := hrel
    have HT := hid hall
    have BW := hid hbel
    clear hall hbel
    by_cases hkl : k < xs.length
    · rename World => wo
      obtain ⟨b, o, A', c', rfl, hlt, hc0, hc1, hc2, hc3, hr⟩ := (HA.out.below BW.out).atStep hkl
      have hx := hid (HK.out xs[k] (List.getElem_mem hkl))
      have HR := hid hr
      have q0 : (0 : Int) ≤ (k : Int) := by omega
      have q1 : (k : Int) < xs.length := by omega
      have e2 : IntKind.i64.wrap ((k : Int) - 1) = (k : Int) - 1 := IntWalk.i64_in _ (by omega)
      clear hr
      cases c1 : stepD xs[k]
      · have C1 := hid c1
        have HN := hid (nostep hkl (fun h => by have := h.1; rw [c1] at this; cases this))
        clear c1
        go_wp2_with (go_at_call 175; refine (stepW_ok xs[k] A' c' b (o + k * 4) _ hx.out HR.out hc0 hc1 hc2 hc3 false C1.out).mono ?_; rintro e w5 ⟨rfl, hb5⟩; have kk3 := (hb5.cell (p := ⟨b, o + k * 4 + 3, none⟩) hlt).trans hc3; have B5 := hid (below_trans BW.out hb5))
        go_ret
        exact ⟨ret_bool HN.out.symm, B5.out⟩
      cases c2 : risesB xs[k].fIn 0 ((k : Int) - 1)
      · have C1 := hid c1
        have C2 := hid c2
        have HN := hid (nostep hkl (fun h => by have := h.2.1; rw [c2] at this; cases this))
        clear c1 c2
        go_wp2_with (first | (go_at_call 175; refine (stepW_ok xs[k] A' c' b (o + k * 4) _ hx.out HR.out hc0 hc1 hc2 hc3 true C1.out).mono ?_; rintro e w5 ⟨rfl, hb5⟩; have kk3 := (hb5.cell (p := ⟨b, o + k * 4 + 3, none⟩) hlt).trans hc3; have B5 := hid (below_trans BW.out hb5)) | (go_at_call 176; refine (rises_eq A' c' xs[k].fIn 0 ((k : Int) - 1) _ (rows_ints (HR.out.below hb5)) hx.out.2 C2.out).mono ?_; rintro e w6 ⟨rfl, hb6⟩; have B6 := hid (below_trans B5.out hb6)))
        go_ret
        exact ⟨ret_bool HN.out.symm, B6.out⟩
      have C1 := hid c1
      have C2 := hid c2
      clear c1 c2
      go_wp2_with (first | (go_at_call 175; refine (stepW_ok xs[k] A' c' b (o + k * 4) _ hx.out HR.out hc0 hc1 hc2 hc3 true C1.out).mono ?_; rintro e w5 ⟨rfl, hb5⟩; have kk3 := (hb5.cell (p := ⟨b, o + k * 4 + 3, none⟩) hlt).trans hc3; have B5 := hid (below_trans BW.out hb5)) | (go_at_call 176; refine (rises_eq A' c' xs[k].fIn 0 ((k : Int) - 1) _ (rows_ints (HR.out.below hb5)) hx.out.2 C2.out).mono ?_; rintro e w6 ⟨rfl, hb6⟩; have B6 := hid (below_trans B5.out hb6)))
      go_loopw [5] (fun m ws => ∃ q : Nat, q ≤ k ∧ m = .int .i64 q ∧ (∀ i (h : i < xs.length), i < q → xs[i].fId ≠ xs[k].fId) ∧ Below w6.heap.size w6 ws) (fun m _ => k - (intOf m).toNat)
      case atStart => exact ⟨0, Nat.zero_le _, rfl, fun _ _ h => absurd h (by omega), Below.refl _ _⟩
      case round =>
        obtain ⟨q, hq, rfl, hne, hbel⟩ := hrel
        have HW := hid hbel
        have HE := hid hne
        clear hbel hne
        by_cases hql : q < k
        · have hqx : q < xs.length := by omega
          have q2 : (0 : Int) ≤ (q : Int) := by omega
          have q3 : (q : Int) < xs.length := by omega
          have q4 : (q : Int) < (k : Int) := by omega
          obtain ⟨b1, o1, _, _, hA1, _, hk0, _, _, _, _⟩ := ((HA.out.below B6.out).below HW.out).atStep hkl
          obtain ⟨b2, o2, _, _, hA2, _, hp0, _, _, _, _⟩ := ((HA.out.below B6.out).below HW.out).atStep hqx
          injection hA1 with hA1
          injection hA1 with hA1 ho1
          subst hA1 ho1
          injection hA2 with hA2
          injection hA2 with hA2 ho2
          subst hA2 ho2
          by_cases d : xs[q].fId = xs[k].fId
          · have HN := hid (nostep hkl (fun h => h.2.2 q hqx hql d))
            have d2 : (xs[q].fId.toList == xs[k].fId.toList) = true := by rw [d]; exact beq_self_eq_true _
            clear d
            go_wp2_with fail
            go_quiet (fail)
            go_wp2_with fail
            go_ret
            exact ⟨ret_bool HN.out.symm, below_drewN' (below_trans B6.out HW.out) _⟩
          · have HS := hid (show ∀ i (h : i < xs.length), i < q + 1 → xs[i].fId ≠ xs[k].fId from fun i h hj => by
              rcases Nat.lt_or_ge i q with h3 | h3
              · exact HE.out i h h3
              · have e : i = q := by omega
                subst e; exact d)
            have d2 : (xs[q].fId.toList == xs[k].fId.toList) = false := by rw [beq_eq_false_iff_ne]; exact fun h => d (bytes_eq h)
            clear d
            go_wp2_with fail
            go_quiet (fail)
            go_wp2_with fail
            go_roundw
            case rel => exact ⟨q + 1, by omega, by go_num, HS.out, below_drewN' HW.out _⟩
            case measure => simp [intOf]; omega
        · have hq2 : q = k := by omega
          subst hq2
          have HS := hid (HT.out.succ hkl ⟨C1.out, C2.out, HE.out⟩)
          go_wp2_with fail
          go_roundw
          case rel => exact ⟨q + 1, by omega, by go_num, HS.out, below_trans B6.out HW.out⟩
          case measure => simp [intOf]; omega
    · have hk2 : k = xs.length := by omega
      subst hk2
      have HN := hid (steps_few HT.out)
      go_wp2_with fail
      go_ret
      exact ⟨ret_bool HN.out, BW.out⟩

end Go.Proofs.Ytnekigpeknenjaa
