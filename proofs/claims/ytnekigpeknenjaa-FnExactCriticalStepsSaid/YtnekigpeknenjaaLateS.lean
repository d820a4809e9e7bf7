/- Latest starts: the reference. -/
import Derived.Test.YtnekigpeknenjaaLateMath
import Derived.Test.YtnekigpeknenjaaEarlyS
import Derived.StillTailTactics
namespace Go.Proofs.Ytnekigpeknenjaa
open Go.RowKit
set_option linter.unusedVariables false

theorem l00Min_ok (a b : Int) (w : World) : Calls Try.prog 182 #[.int .i64 a, .int .i64 b] w fun e w' => e = .returned (.int .i64 (min a b)) ∧ w = w' := by
  by_cases h : a < b
  · have HE := hid (show min a b = a by omega)
    go_enter Try.func182, Try.ntmps182
    go_wp2_with fail
    go_ret
    exact ⟨ret_int HE.out.symm, rfl⟩
  · have HE := hid (show min a b = b by omega)
    go_enter Try.func182, Try.ntmps182
    go_wp2_with fail
    go_ret
    exact ⟨ret_int HE.out.symm, rfl⟩

set_option maxHeartbeats 3200000 in
set_option maxRecDepth 100000 in
theorem l17Late_ok (A : Option Addr) (c : Nat) (xs : List DStep) (w : World) (hA : NestAt 1 hdStep inStep w A xs) (hh : StepsTo xs xs.length) (hn : xs.length ≤ 12) :
    Calls Try.prog 128 #[.slice A xs.length c] w (RetI w (slateTo xs xs.length)) := by
  have HH := hid hh
  have HA := hid hA
  have e2 : IntKind.i64.wrap ((xs.length : Int) - 1) = (xs.length : Int) - 1 := IntWalk.i64_in _ (by omega)
  have eb := endN_bd hh hn
  clear hA hh
  go_enter Try.func128, Try.ntmps128
  go_wp2_with (first
    | (go_at_call 119; refine (l17End_ok _ _ xs A2 c2 (earlyTo xs xs.length) _ (HA.out.below hb2) HH.out hn (ints_own ho2) (earlyTo_len xs _) (early_bd HH.out _ (Nat.le_refl _))).mono ?_; rintro e w3 ⟨rfl, hb3⟩; have B3 := hid (below_trans hb2 hb3))
    | (go_at_call 130; refine (l17Early_ok _ _ xs _ HA.out HH.out hn).mono ?_; rintro e w2 ⟨A2, c2, rfl, ho2, hno2, hb2⟩))
  clear ho2 hno2 hb2 hb3
  obtain ⟨E, hE⟩ : ∃ E, E = endTo xs (earlyTo xs xs.length) xs.length := ⟨_, rfl⟩
  rw [← hE]
  have HE := hid (show E = endN xs from hE)
  rw [← HE.out] at eb
  clear hE
  go_loopw [4, 5] (fun v i wr => ∃ (k g cc : Nat), k ≤ xs.length ∧ i = .int .i64 k ∧ v = .slice (some ⟨g, 0, none⟩) k cc ∧ w.heap.size ≤ g ∧ wr.ownsRow w.heap.size 2 1 (.slice (some ⟨g, 0, none⟩) k cc) k (((slateTo xs 0).take k).map (Value.int .i64)) ∧ Below w.heap.size w wr) (fun _ i _ => xs.length - (intOf i).toNat)
  case atStart => exact ⟨0, w3.heap.size, 0, Nat.zero_le _, rfl, rfl, B3.out.size, World.ownsRow_lit w3 #[] 0 B3.out.size (by unfold maxLen; omega) rfl, B3.out.alloc B3.out.size _⟩
  case round =>
    obtain ⟨k, g, cc, hk, rfl, rfl, hg, hown, hbel⟩ := hrel
    have HO := hid hown
    have HB := hid hbel
    clear hown hbel
    by_cases hkl : k < xs.length
    · obtain ⟨b, o, A', c', rfl, hlt, hc0, hc1, hc2, hc3, hr⟩ := (HA.out.below HB.out).atStep hkl
      have sh := step_hours HH.out hkl
      have q0 : (0 : Int) ≤ (k : Int) := by omega
      have q1 : (k : Int) < xs.length := by omega
      have w1 : IntKind.i64.wrap (E - xs[k].fHours) = E - xs[k].fHours := IntWalk.i64_in _ (by omega)
      have HS := hid (show ((slateTo xs 0).take k).map (Value.int .i64) ++ [.int .i64 (E - xs[k].fHours)] = ((slateTo xs 0).take (k + 1)).map (Value.int .i64) by
        rw [List.take_succ_eq_append_getElem (by rw [slateTo_len]; exact hkl), List.map_append]
        simp [slateTo, HE.out])
      clear hc0 hc2 hc3 hr
      go_wp2_with (at_builtin; refine wpList_app (w0 := w) rfl (.tmp 20) (.tmp 28) 23 rfl w.heap.size 2 (.int .i64 0) 1 8 Try.underlying23 infoI rfl (by decide) _ _ _ rfl HO.out #[.int .i64 (E - xs[k].fHours)] 1 1 rfl rfl (by simp [Value.oneCell']) (by omega) HB.out.size HB.out ?_; intro v1 w6 hown1 hbel1 hz1 _; obtain ⟨g6, c6, rfl, hf6⟩ := own_form hown1 (by omega))
      go_roundw
      case rel => exact ⟨k + 1, g6, c6, by omega, by go_num, rfl, hf6.1, by rw [← HS.out]; exact hown1, hbel1⟩
      case measure => simp [intOf]; omega
    · have hk2 : k = xs.length := by omega
      subst hk2
      have O4 := hid (show wr.ownsRow w.heap.size 2 1 (.slice (some ⟨g, 0, none⟩) xs.length cc) xs.length ((slateTo xs 0).map (Value.int .i64)) by have h := HO.out; rw [List.take_of_length_le (by rw [slateTo_len]; exact Nat.le_refl _)] at h; exact h)
      clear HO
      rename World => wo
      go_wp2_with fail
      go_loopw [6] (fun m wr => ∃ mm : Nat, mm ≤ xs.length ∧ m = .int .i64 ((xs.length : Int) - 1 - (mm : Int)) ∧ wr.ownsRow w.heap.size 2 1 (.slice (some ⟨g, 0, none⟩) xs.length cc) xs.length ((slateTo xs mm).map (Value.int .i64)) ∧ Below w.heap.size w wr) (fun m _ => (intOf m + 1).toNat)
      case atStart => exact ⟨0, Nat.zero_le _, by simp, O4.out, HB.out⟩
      case round =>
        obtain ⟨mm, hm, rfl, hown, hbel⟩ := hrel
        have OW := hid hown
        have HW := hid hbel
        clear hown hbel
        by_cases hml : mm < xs.length
        · obtain ⟨i, hi⟩ : ∃ i : Nat, i = xs.length - 1 - mm := ⟨_, rfl⟩
          have hie : (xs.length : Int) - 1 - (mm : Int) = (i : Int) := by omega
          have hil : i < xs.length := by omega
          rw [hie]
          have HIE := hid hie
          have HI := hid hi
          obtain ⟨b, o, A', c', rfl, hlt, hc0, hc1, hc2, hc3, hr⟩ := HA.out.atStep hil
          have H3 := hid hc3
          have HR := hid (rows_ints hr)
          have l12 : xs[i].fIn.length ≤ 12 := by
            have h1 := rises_length (HH.out i hil hil).2.1 (by omega)
            omega
          have q0 : (0 : Int) ≤ (i : Int) := by omega
          have q1 : (i : Int) < xs.length := by omega
          have AFT := hid (after_lt HH.out hil)
          rw [aN_at hil] at AFT
          have MET := hid (show Meet xs i (downTo xs (lateTo xs mm) i) (slateTo xs mm) from fun j hj => by
            have bb := late_meet HH.out mm hm j hj
            simp only [downTo]
            rw [gI_set _ _ _ _ (by rw [lateTo_len]; omega)]
            rcases Nat.lt_trichotomy j i with h1 | h1 | h1
            · rw [if_pos h1, if_neg (by omega), bb, if_pos (by omega)]
            · rw [if_neg (by omega), if_pos h1, bb, if_pos (by omega), h1]
            · rw [if_neg (by omega), if_neg (by omega), bb, if_neg (by omega)])
          have BDT := hid (down_bd HH.out hil (lateTo_len xs mm) (late_bd HH.out hn mm hm))
          clear hie hi hc0 hc1 hc2 hc3 hr
          go_wp2_with fail
          go_loopw [7] (fun m ws => ∃ q : Nat, q ≤ xs[i].fIn.length ∧ m = .int .i64 q ∧ ws.ownsRow w.heap.size 2 1 (.slice (some ⟨g, 0, none⟩) xs.length cc) xs.length ((sminTo xs (slateTo xs mm) i xs[i].fIn q).map (Value.int .i64)) ∧ Below w.heap.size w ws) (fun m _ => xs[i].fIn.length - (intOf m).toNat)
          case atStart => exact ⟨0, Nat.zero_le _, rfl, OW.out, HW.out⟩
          case round =>
            obtain ⟨q, hq, rfl, hown, hbel⟩ := hrel
            have OQ := hid hown
            have HQ := hid hbel
            clear hown hbel
            have k3 : wr.cell? ⟨b, o + i * 4 + 3, none⟩ = some (.slice A' xs[i].fIn.length c') := (HQ.out.cell (p := ⟨b, o + i * 4 + 3, none⟩) hlt).trans H3.out
            by_cases hql : q < xs[i].fIn.length
            · obtain ⟨ca, cb⟩ := step_after HH.out hil hql
              obtain ⟨p, hp⟩ : ∃ p : Nat, xs[i].fIn[q] = (p : Int) := ⟨xs[i].fIn[q].toNat, by omega⟩
              have hpi : p < i := by omega
              have hpl : p < xs.length := by omega
              obtain ⟨rb, ro, hA1, rlt, hrc⟩ := HR.out (by intro e; rw [e] at hql; exact absurd hql (by simp))
              subst hA1
              obtain ⟨b2, o2, _, _, hA2, blt, _, ph, _, _, _⟩ := HA.out.atStep hpl
              injection hA2 with hA2
              injection hA2 with hA2 ho2
              subst hA2 ho2
              have mt := meet_min hil (by simp only [downTo, List.length_set, lateTo_len]) (slateTo_len xs mm) AFT.out MET.out q hq
              have bt := minTo_bd (by simp only [downTo, List.length_set, lateTo_len]; exact hil) AFT.out BDT.out q hq
              have m1 := mt p hpl
              have m2 := mt i hil
              rw [if_pos hpi, hN_at hpl] at m1
              rw [if_neg (Nat.lt_irrefl i)] at m2
              have t1 := bt p
              have t2 := bt i
              have sh := step_hours HH.out hpl
              obtain ⟨T, hT⟩ : ∃ T, T = sminTo xs (slateTo xs mm) i xs[i].fIn q := ⟨_, rfl⟩
              rw [← hT] at m1 m2
              have TL : T.length = xs.length := by rw [hT, sminTo_len, slateTo_len]
              have HM := hid (show sminTo xs (slateTo xs mm) i xs[i].fIn (q + 1) = T.set p (min (gI T p) (gI T i - xs[p].fHours)) by
                simp only [sminTo]
                rw [gI_at hql, hp, Int.toNat_natCast, ← hT, hN_at hpl])
              have OE := hid (show wr.drew.ownsRow w.heap.size 2 1 (.slice (some ⟨g, 0, none⟩) xs.length cc) xs.length (T.map (Value.int .i64)) by rw [hT]; exact own_below OQ.out (Below.refl _ _).drew)
              have HE2 := hid HQ.out.drew
              have k0 : wr.cell? ⟨rb, ro + q, none⟩ = some (.int .i64 (p : Int)) := by rw [← hp]; exact (HQ.out.cell (p := ⟨rb, ro + q, none⟩) rlt).trans (hrc q _ (List.getElem?_eq_getElem hql))
              have g4 : wr.drew.cell? ⟨g, p, none⟩ = some (.int .i64 (gI T p)) := by
                have h := OE.out.cellAt p (by omega)
                rw [List.getElem?_map, List.getElem?_eq_getElem (by omega), ← gI_at (by omega)] at h
                exact h
              have g5 : wr.drew.cell? ⟨g, i, none⟩ = some (.int .i64 (gI T i)) := by
                have h := OE.out.cellAt i (by omega)
                rw [List.getElem?_map, List.getElem?_eq_getElem (by omega), ← gI_at (by omega)] at h
                exact h
              have g6 : wr.drew.cell? ⟨b, o + p * 4 + 1, none⟩ = some (.int .i64 xs[p].fHours) := (HQ.out.drew.cell (p := ⟨b, o + p * 4 + 1, none⟩) blt).trans ph
              have gf2 : wr.drew.frozen? ⟨g, p, none⟩ = false := OE.out.frozenAt p
              have w1 : IntKind.i64.wrap (gI T i - xs[p].fHours) = gI T i - xs[p].fHours := IntWalk.i64_in _ (by omega)
              have q2 : (0 : Int) ≤ (q : Int) := by omega
              have q3 : (q : Int) < xs[i].fIn.length := by omega
              have p0 : (0 : Int) ≤ (p : Int) := by omega
              have p1 : (p : Int) < xs.length := by omega
              clear hp ca cb hT TL hrc m1 m2 t1 t2 bt mt sh
              go_wp2_with fail
              refine wp_region_still_tail 18 (by kernel_rfl) (by kernel_rfl) ?_
              change wpStill _ _ wr.drew (fun a' => wpList _ _ _ _ a' wr.drew) _ _
              generalize wr.drew = we at *
              simp only [List.take_succ_cons, List.take_zero, List.drop_succ_cons, List.drop_zero]
              repeat (first | still_step | still_call (by go_at_call 182; refine (l00Min_ok _ _ _).mono ?_; rintro e w' ⟨rfl, rfl⟩; exact ⟨rfl, rfl⟩))
              try refine wpStill_nil ?_
              go_wp2_with fail
              go_roundw
              case rel =>
                refine ⟨q + 1, by omega, by go_num, ?_, HE2.out.setCell (p := ⟨g, p, none⟩) hg _⟩
                have e := (OE.out.stored p (.int .i64 (min (gI T p) (gI T i - xs[p].fHours)))).1
                rw [← List.map_set (f := Value.int .i64)] at e
                rw [HM.out]
                exact e
              case measure => simp [intOf]; omega
            · have hq2 : q = xs[i].fIn.length := by omega
              subst hq2
              have HL := hid (show slateTo xs (mm + 1) = sminTo xs (slateTo xs mm) i xs[i].fIn xs[i].fIn.length by rw [slateTo, ← HI.out, aN_at hil])
              have w5 : IntKind.i64.wrap ((i : Int) - 1) = (i : Int) - 1 := IntWalk.i64_in _ (by omega)
              go_wp2_with fail
              go_roundw
              case rel => exact ⟨mm + 1, by omega, by congr 1; have := HIE.out; omega, by rw [HL.out]; exact OQ.out, HQ.out⟩
              case measure => first | (simp [intOf]; done) | (simp [intOf]; omega)
        · have hm2 : mm = xs.length := by omega
          subst hm2
          rw [show (xs.length : Int) - 1 - (xs.length : Int) = -1 by omega]
          go_wp2_with fail
          go_ret
          exact RetI.own (by rw [slateTo_len]; exact OW.out) HW.out

end Go.Proofs.Ytnekigpeknenjaa
