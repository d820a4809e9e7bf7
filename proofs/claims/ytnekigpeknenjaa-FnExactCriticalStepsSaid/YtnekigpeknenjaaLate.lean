/- Latest starts: impl's function. -/
import Derived.Test.YtnekigpeknenjaaLateMath
import Derived.Test.YtnekigpeknenjaaEarly
import Derived.StillTailTactics
namespace Go.Proofs.Ytnekigpeknenjaa
open Go.RowKit
set_option linter.unusedVariables false

set_option maxHeartbeats 3200000 in
set_option maxRecDepth 100000 in
theorem latest_ok (A : Option Addr) (c : Nat) (xs : List DStep) (w : World) (hA : NestAt 1 hdStep inStep w A xs) (hh : StepsTo xs xs.length) (hn : xs.length ≤ 12) :
    Calls Try.prog 129 #[.slice A xs.length c] w (RetI w (lateTo xs xs.length)) := by
  obtain ⟨i0, hi0, hz0, hz1, hz2⟩ := info_parts infoI
  have HH := hid hh
  have HA := hid hA
  have e2 : IntKind.i64.wrap ((xs.length : Int) - 1) = (xs.length : Int) - 1 := IntWalk.i64_in _ (by omega)
  clear hA hh
  go_enter Try.func129, Try.ntmps129
  go_wp2_with (first
    | (at_make; refine wpList_make_full _ rfl _ _ _ rfl w.heap.size 2 i0 (.int .i64 0) 1 Try.underlying23 hi0 hz0 hz1 .i64 .i64 _ _ xs.length rfl rfl rfl rfl (by rw [hz2]; omega) (by unfold maxLen; omega) (Nat.le_refl _) ?_; intro w1 hown1 hg1; have B1 := hid ((Below.refl w.heap.size w).grown hg1 (Nat.le_refl _) (fun k hk => by cases hk)); have O1 := hid hown1; clear hown1 hg1)
    | (go_at_call 131; refine (earliest_ok _ _ xs _ (HA.out.below B1.out) HH.out hn).mono ?_; rintro e w2 ⟨A2, c2, rfl, ho2, hno2, hb2⟩)
    | (go_at_call 126; refine (ended_ok _ _ xs A2 c2 (earlyTo xs xs.length) _ ((HA.out.below B1.out).below hb2) HH.out hn (ints_own ho2) (earlyTo_len xs _) (early_bd HH.out _ (Nat.le_refl _))).mono ?_; rintro e w3 ⟨rfl, hb3⟩; have O3 := hid (own_below (own_below O1.out hb2) hb3); have B3 := hid (below_trans (below_trans B1.out hb2) hb3)))
  clear ho2 hno2 hb2 hb3
  obtain ⟨E, hE⟩ : ∃ E, E = endTo xs (earlyTo xs xs.length) xs.length := ⟨_, rfl⟩
  rw [← hE]
  have HE := hid hE
  clear hE
  go_loopw [18] (fun i wr => ∃ k : Nat, k ≤ xs.length ∧ i = .int .i64 k ∧ wr.ownsRow w.heap.size 2 1 (.slice (some ⟨w.heap.size, 0, none⟩) xs.length xs.length) xs.length ((List.replicate k E ++ List.replicate (xs.length - k) 0).map (Value.int .i64)) ∧ Below w.heap.size w wr) (fun i _ => xs.length - (intOf i).toNat)
  case atStart =>
    refine ⟨0, Nat.zero_le _, rfl, ?_, B3.out⟩
    have e : ((List.replicate 0 E ++ List.replicate (xs.length - 0) (0 : Int)).map (Value.int .i64)) = (madeCells (Value.int .i64 0).cells (xs.length * 1)).toList := by
      rw [made_one _ _ rfl]; simp
    rw [e]
    exact O3.out
  case round =>
    obtain ⟨k, hk, rfl, hown, hbel⟩ := hrel
    have HB := hid hbel
    clear hbel
    by_cases hkl : k < xs.length
    · have hold : wr.cell? ⟨w.heap.size, k, none⟩ = some (.int .i64 0) := by
        rw [hown.cellAt k (by omega), List.getElem?_map, List.getElem?_append_right (by simp)]
        simp [List.getElem?_replicate]
        omega
      have hfr := hown.frozenAt k
      have HS := hid (hown.stored k (.int .i64 E))
      clear hown
      go_wp2_with fail
      go_roundw
      case rel =>
        refine ⟨k + 1, by omega, by go_num, ?_, HB.out.setCell (p := ⟨w.heap.size, k, none⟩) (Nat.le_refl _) _⟩
        have e := HS.out.1
        rw [← List.map_set (f := Value.int .i64)] at e
        have e3 : (List.replicate k E ++ List.replicate (xs.length - k) 0).set k E = List.replicate (k + 1) E ++ List.replicate (xs.length - (k + 1)) 0 := by
          rw [List.set_append_right _ _ (by simp), List.length_replicate, Nat.sub_self, show xs.length - k = (xs.length - (k + 1)) + 1 by omega, List.replicate_succ, List.set_cons_zero, List.replicate_succ', List.append_assoc]
          rfl
        rw [e3] at e
        exact e
      case measure => simp [intOf]; omega
    · have hk2 : k = xs.length := by omega
      subst hk2
      have O4 := hid (show wr.ownsRow w.heap.size 2 1 (.slice (some ⟨w.heap.size, 0, none⟩) xs.length xs.length) xs.length ((lateTo xs 0).map (Value.int .i64)) by
        have e : lateTo xs 0 = List.replicate xs.length E ++ List.replicate (xs.length - xs.length) 0 := by rw [Nat.sub_self, List.replicate_zero, List.append_nil, HE.out]; rfl
        rw [e]
        exact hown)
      clear hown
      rename World => wo
      go_wp2_with fail
      go_loopw [6] (fun m wr => ∃ mm : Nat, mm ≤ xs.length ∧ m = .int .i64 ((xs.length : Int) - 1 - (mm : Int)) ∧ wr.ownsRow w.heap.size 2 1 (.slice (some ⟨w.heap.size, 0, none⟩) xs.length xs.length) xs.length ((lateTo xs mm).map (Value.int .i64)) ∧ Below w.heap.size w wr) (fun m _ => (intOf m + 1).toNat)
      case atStart => exact ⟨0, Nat.zero_le _, by simp, O4.out, HB.out⟩
      case round =>
        obtain ⟨mm, hm, rfl, hown, hbel⟩ := hrel
        have OW := hid hown
        have HW := hid hbel
        clear hown hbel
        by_cases hml : mm < xs.length
        · obtain ⟨i, hi⟩ : ∃ i : Nat, i = xs.length - 1 - mm := ⟨_, rfl⟩
          have hie : (xs.length : Int) - 1 - (mm : Int) = (i : Int) := by omega
          have hil : i < xs.length := by omega
          rw [hie]
          have HIE := hid hie
          have HI := hid hi
          clear hie hi
          have S1 := lateTo_len xs mm
          have bd := late_bd HH.out hn mm hm i
          have sh := step_hours HH.out hil
          obtain ⟨b, o, A', c', rfl, hlt, hc0, hc1, hc2, hc3, hr⟩ := HA.out.atStep hil
          have g0 : wr.drew.cell? ⟨w.heap.size, i, none⟩ = some (.int .i64 (gI (lateTo xs mm) i)) := by
            have h := OW.out.cellAt i (by omega)
            rw [List.getElem?_map, List.getElem?_eq_getElem (by omega), ← gI_at (by omega)] at h
            exact h
          have g3 : wr.drew.cell? ⟨b, o + i * 4 + 3, none⟩ = some (.slice A' xs[i].fIn.length c') := (HW.out.drew.cell (p := ⟨b, o + i * 4 + 3, none⟩) hlt).trans hc3
          have HR := hid (rows_ints hr)
          have l12 : xs[i].fIn.length ≤ 12 := by
            have h1 := rises_length (HH.out i hil hil).2.1 (by omega)
            omega
          have HS0 := hid (show ((lateTo xs mm).map (Value.int .i64)).set i (.int .i64 (gI (lateTo xs mm) i - xs[i].fHours)) = (downTo xs (lateTo xs mm) i).map (Value.int .i64) by
            rw [downTo, hN_at hil, List.map_set])
          have g1 : wr.drew.cell? ⟨b, o + i * 4 + 1, none⟩ = some (.int .i64 xs[i].fHours) := (HW.out.drew.cell (p := ⟨b, o + i * 4 + 1, none⟩) hlt).trans hc1
          have gf : wr.drew.frozen? ⟨w.heap.size, i, none⟩ = false := OW.out.frozenAt i
          have w1 : IntKind.i64.wrap (gI (lateTo xs mm) i - xs[i].fHours) = gI (lateTo xs mm) i - xs[i].fHours := IntWalk.i64_in _ (by omega)
          have q0 : (0 : Int) ≤ (i : Int) := by omega
          have q1 : (i : Int) < xs.length := by omega
          have OD := hid (own_below OW.out (Below.refl _ _).drew)
          have HD := hid HW.out.drew
          clear S1 hc0 hc1 hc2 hc3 hr
          go_wp2_with fail
          refine wp_region_still_tail 11 (by kernel_rfl) (by kernel_rfl) ?_
          change wpStill _ _ wr.drew (fun a' => wpList _ _ _ _ a' wr.drew) _ _
          generalize wr.drew = wd at *
          simp only [List.take_succ_cons, List.take_zero, List.drop_succ_cons, List.drop_zero]
          repeat still_step
          try refine wpStill_nil ?_
          go_wp2_with fail
          have O0 := hid (show (wd.setCell ⟨w.heap.size, i, none⟩ (.int .i64 (gI (lateTo xs mm) i - xs[i].fHours))).ownsRow w.heap.size 2 1 (.slice (some ⟨w.heap.size, 0, none⟩) xs.length xs.length) xs.length ((downTo xs (lateTo xs mm) i).map (Value.int .i64)) by rw [← HS0.out]; exact (OD.out.stored i _).1)
          have D0 := hid (HD.out.setCell (p := ⟨w.heap.size, i, none⟩) (Nat.le_refl _) (.int .i64 (gI (lateTo xs mm) i - xs[i].fHours)))
          have BDT := hid (down_bd HH.out hil (lateTo_len xs mm) (late_bd HH.out hn mm hm))
          have AFT := hid (after_lt HH.out hil)
          rw [aN_at hil] at AFT
          clear g0 g1 g3 gf w1 bd sh
          go_loopw [50] (fun m ws => ∃ q : Nat, q ≤ xs[i].fIn.length ∧ m = .int .i64 q ∧ ws.ownsRow w.heap.size 2 1 (.slice (some ⟨w.heap.size, 0, none⟩) xs.length xs.length) xs.length ((minTo (downTo xs (lateTo xs mm) i) i xs[i].fIn q).map (Value.int .i64)) ∧ Below w.heap.size w ws) (fun m _ => xs[i].fIn.length - (intOf m).toNat)
          case atStart => exact ⟨0, Nat.zero_le _, rfl, O0.out, D0.out⟩
          case round =>
            obtain ⟨q, hq, rfl, hown, hbel⟩ := hrel
            have OQ := hid hown
            have HQ := hid hbel
            clear hown hbel
            by_cases hql : q < xs[i].fIn.length
            · obtain ⟨ca, cb⟩ := step_after HH.out hil hql
              obtain ⟨p, hp⟩ : ∃ p : Nat, xs[i].fIn[q] = (p : Int) := ⟨xs[i].fIn[q].toNat, by omega⟩
              have hpi : p < i := by omega
              obtain ⟨rb, ro, hA1, rlt, hrc⟩ := HR.out (by intro e; rw [e] at hql; exact absurd hql (by simp))
              subst hA1
              obtain ⟨T, hT⟩ : ∃ T, T = minTo (downTo xs (lateTo xs mm) i) i xs[i].fIn q := ⟨_, rfl⟩
              have TL : T.length = xs.length := by rw [hT, minTo_len, downTo, List.length_set, lateTo_len]
              have HM := hid (show minTo (downTo xs (lateTo xs mm) i) i xs[i].fIn (q + 1) = T.set p (if gI T i < gI T p then gI T i else gI T p) by
                simp only [minTo]
                rw [gI_at hql, hp, Int.toNat_natCast, ← hT]
                congr 1
                split <;> omega)
              have OE := hid (show wr.drew.ownsRow w.heap.size 2 1 (.slice (some ⟨w.heap.size, 0, none⟩) xs.length xs.length) xs.length (T.map (Value.int .i64)) by rw [hT]; exact own_below OQ.out (Below.refl _ _).drew)
              have HE2 := hid HQ.out.drew
              have k0 : wr.cell? ⟨rb, ro + q, none⟩ = some (.int .i64 (p : Int)) := by rw [← hp]; exact (HQ.out.cell (p := ⟨rb, ro + q, none⟩) rlt).trans (hrc q _ (List.getElem?_eq_getElem hql))
              have g4 : wr.drew.cell? ⟨w.heap.size, p, none⟩ = some (.int .i64 (gI T p)) := by
                have h := OE.out.cellAt p (by omega)
                rw [List.getElem?_map, List.getElem?_eq_getElem (by omega), ← gI_at (by omega)] at h
                exact h
              have g5 : wr.drew.cell? ⟨w.heap.size, i, none⟩ = some (.int .i64 (gI T i)) := by
                have h := OE.out.cellAt i (by omega)
                rw [List.getElem?_map, List.getElem?_eq_getElem (by omega), ← gI_at (by omega)] at h
                exact h
              have gf2 : wr.drew.frozen? ⟨w.heap.size, p, none⟩ = false := OE.out.frozenAt p
              have q2 : (0 : Int) ≤ (q : Int) := by omega
              have q3 : (q : Int) < xs[i].fIn.length := by omega
              have p0 : (0 : Int) ≤ (p : Int) := by omega
              have p1 : (p : Int) < xs.length := by omega
              clear hp ca cb hT TL hrc
              go_wp2_with fail
              refine wp_region_still_tail 12 (by kernel_rfl) (by kernel_rfl) ?_
              change wpStill _ _ wr.drew (fun a' => wpList _ _ _ _ a' wr.drew) _ _
              generalize wr.drew = we at *
              simp only [List.take_succ_cons, List.take_zero, List.drop_succ_cons, List.drop_zero]
              repeat still_step
              try refine wpStill_nil ?_
              go_wp2_with fail
              go_roundw
              case rel =>
                refine ⟨q + 1, by omega, by go_num, ?_, HE2.out.setCell (p := ⟨w.heap.size, p, none⟩) (Nat.le_refl _) _⟩
                have e := (OE.out.stored p (.int .i64 (if gI T i < gI T p then gI T i else gI T p))).1
                rw [← List.map_set (f := Value.int .i64)] at e
                rw [HM.out]
                exact e
              case measure => simp [intOf]; omega
            · have hq2 : q = xs[i].fIn.length := by omega
              subst hq2
              have HL := hid (show lateTo xs (mm + 1) = minTo (downTo xs (lateTo xs mm) i) i xs[i].fIn xs[i].fIn.length by rw [lateTo, ← HI.out, aN_at hil])
              have w5 : IntKind.i64.wrap ((i : Int) - 1) = (i : Int) - 1 := IntWalk.i64_in _ (by omega)
              go_wp2_with fail
              go_roundw
              case rel => exact ⟨mm + 1, by omega, by congr 1; have := HIE.out; omega, by rw [HL.out]; exact OQ.out, HQ.out⟩
              case measure => first | (simp [intOf]; done) | (simp [intOf]; omega)
        · have hm2 : mm = xs.length := by omega
          subst hm2
          rw [show (xs.length : Int) - 1 - (xs.length : Int) = -1 by omega]
          go_wp2_with fail
          go_ret
          exact RetI.own (by rw [lateTo_len]; exact OW.out) HW.out

end Go.Proofs.Ytnekigpeknenjaa
