/- The first hours of steps; the end of a plan: the reference. -/
import Derived.Test.YtnekigpeknenjaaPlanMath
import Derived.Test.YtnekigpeknenjaaHist
namespace Go.Proofs.Ytnekigpeknenjaa
open Go.RowKit
set_option linter.unusedVariables false

theorem l00Max_ok (a b : Int) (w : World) : Calls Try.prog 177 #[.int .i64 a, .int .i64 b] w fun e w' => e = .returned (.int .i64 (max a b)) ∧ w = w' := by
  by_cases h : b < a
  · have HE := hid (show max a b = a by omega)
    go_enter Try.func177, Try.ntmps177
    go_wp2_with fail
    go_ret
    exact ⟨ret_int HE.out.symm, rfl⟩
  · have HE := hid (show max a b = b by omega)
    go_enter Try.func177, Try.ntmps177
    go_wp2_with fail
    go_ret
    exact ⟨ret_int HE.out.symm, rfl⟩

set_option maxHeartbeats 1600000 in
set_option maxRecDepth 100000 in
theorem l17End_ok (A : Option Addr) (c : Nat) (xs : List DStep) (S : Option Addr) (cS : Nat) (st : List Int) (w : World) (hA : NestAt 1 hdStep inStep w A xs) (hh : StepsTo xs xs.length) (hn : xs.length ≤ 12) (hS : IntsAt w S st) (hsl : st.length = xs.length) (hb : Bd st) :
    Calls Try.prog 119 #[.slice A xs.length c, .slice S st.length cS] w fun e w' => e = .returned (.int .i64 (endTo xs st xs.length)) ∧ Below w.heap.size w w' := by
  have HH := hid hh
  have HA := hid hA
  have HS := hid hS
  have HBD := hid hb
  have HSL := hid hsl
  have hst : st.length ≤ 1048576 := by omega
  clear hA hh hS hb hsl
  go_enter Try.func119, Try.ntmps119
  go_wp2_with fail
  go_loopw [5, 6] (fun h m wr => ∃ k : Nat, k ≤ xs.length ∧ m = .int .i64 k ∧ h = .int .i64 (endTo xs st k) ∧ Below w.heap.size w wr) (fun _ m _ => xs.length - (intOf m).toNat)
  case atStart => exact ⟨0, Nat.zero_le _, rfl, rfl, Below.refl _ _⟩
  case round =>
    obtain ⟨k, hk, rfl, rfl, hbel⟩ := hrel
    have HB := hid hbel
    clear hbel
    by_cases hkl : k < xs.length
    · have hks : k < st.length := by have := HSL.out; omega
      obtain ⟨b, o, A', c', rfl, hlt, hc0, hc1, hc2, hc3, hr⟩ := (HA.out.below HB.out).atStep hkl
      obtain ⟨sb, so, hS1, slt, hsc⟩ := HS.out (by intro e; rw [e] at hks; exact absurd hks (by simp))
      subst hS1
      have k1 : wr.cell? ⟨sb, so + k, none⟩ = some (.int .i64 st[k]) := (HB.out.cell (p := ⟨sb, so + k, none⟩) slt).trans (hsc k _ (List.getElem?_eq_getElem hks))
      have b1 := HBD.out k hks
      have b2 := step_hours HH.out hkl
      have w1 : IntKind.i64.wrap (st[k] + xs[k].fHours) = st[k] + xs[k].fHours := IntWalk.i64_in _ (by omega)
      have q0 : (0 : Int) ≤ (k : Int) := by omega
      have q1 : (k : Int) < xs.length := by omega
      have q2 : (k : Int) < st.length := by omega
      have HN := hid (show endTo xs st (k + 1) = max (endTo xs st k) (st[k] + xs[k].fHours) by
        simp only [endTo]
        rw [gI_at hks, hN_at hkl])
      clear hr hsc
      go_wp2_with fail
      go_quiet ((go_at_call 177; with_reducible exact quiet_left (l00Max_ok _ _ _)))
      go_wp2_with fail
      go_roundw
      case rel => exact ⟨k + 1, by omega, by go_num, by rw [HN.out], below_drewN' HB.out _⟩
      case measure => simp [intOf]; omega
    · have hk2 : k = xs.length := by omega
      subst hk2
      go_wp2_with fail
      go_ret
      exact ⟨rfl, HB.out⟩

set_option maxHeartbeats 1600000 in
set_option maxRecDepth 100000 in
theorem l17Early_ok (A : Option Addr) (c : Nat) (xs : List DStep) (w : World) (hA : NestAt 1 hdStep inStep w A xs) (hh : StepsTo xs xs.length) (hn : xs.length ≤ 12) :
    Calls Try.prog 130 #[.slice A xs.length c] w (RetI w (earlyTo xs xs.length)) := by
  have HH := hid hh
  have HA := hid hA
  clear hA hh
  go_enter Try.func130, Try.ntmps130
  go_wp2_with fail
  go_loopw [3, 4] (fun v m wr => ∃ (k : Nat) (Ac : Option Addr) (cc : Nat), k ≤ xs.length ∧ m = .int .i64 k ∧ v = .slice Ac (earlyTo xs k).length cc ∧ wr.ownsRow w.heap.size 2 1 (.slice Ac (earlyTo xs k).length cc) (earlyTo xs k).length ((earlyTo xs k).map (Value.int .i64)) ∧ Below w.heap.size w wr) (fun _ m _ => xs.length - (intOf m).toNat)
  case atStart => exact ⟨0, _, _, Nat.zero_le _, rfl, rfl, World.ownsRow_lit _ _ 0 (Nat.le_refl _) (by unfold maxLen; omega) rfl, below_alloc _ _⟩
  case round =>
    obtain ⟨k, Ac, cc, hk, rfl, rfl, hown, hbel⟩ := hrel
    have HO := hid hown
    have HB := hid hbel
    have LE := earlyTo_len xs k
    clear hown hbel
    by_cases hkl : k < xs.length
    · rename World => wo
      have q0 : (0 : Int) ≤ (k : Int) := by omega
      have q1 : (k : Int) < xs.length := by omega
      have HE := hid (show (earlyTo xs k).map (Value.int .i64) ++ [.int .i64 (readyTo xs (earlyTo xs k) xs[k].fIn xs[k].fIn.length)] = (earlyTo xs (k + 1)).map (Value.int .i64) by
        rw [earlyTo, List.map_append, readyN_at hkl]
        rfl)
      have LE2 := hid (show (earlyTo xs k).length + 1 = (earlyTo xs (k + 1)).length by rw [earlyTo_len, earlyTo_len])
      have LK := hid LE
      have hl2 : (earlyTo xs k).length ≤ 12 := by omega
      have HBD := hid (early_bd HH.out k hk)
      have l12 : xs[k].fIn.length ≤ 12 := by
        have h1 := rises_length (HH.out k hkl hkl).2.1 (by omega)
        omega
      clear LE
      go_wp2_with fail
      go_loopw [5, 6] (fun h m ws => ∃ q : Nat, q ≤ xs[k].fIn.length ∧ m = .int .i64 q ∧ h = .int .i64 (readyTo xs (earlyTo xs k) xs[k].fIn q) ∧ Below wo.heap.size wo ws) (fun _ m _ => xs[k].fIn.length - (intOf m).toNat)
      case atStart => exact ⟨0, Nat.zero_le _, rfl, rfl, Below.refl _ _⟩
      case round =>
        obtain ⟨q, hq, rfl, rfl, hbel⟩ := hrel
        have HW := hid hbel
        clear hbel
        obtain ⟨b, o, A', c', rfl, hlt, hc0, hc1, hc2, hc3, hr⟩ := ((HA.out.below HB.out).below HW.out).atStep hkl
        have HR := hid (rows_ints hr)
        clear hr
        by_cases hql : q < xs[k].fIn.length
        · obtain ⟨ca, cb⟩ := step_after HH.out hkl hql
          obtain ⟨p, hp⟩ : ∃ p : Nat, xs[k].fIn[q] = (p : Int) := ⟨xs[k].fIn[q].toNat, by omega⟩
          have hpl : p < xs.length := by omega
          have hps : p < (earlyTo xs k).length := by have := LK.out; omega
          obtain ⟨rb, ro, hA1, rlt, hrc⟩ := HR.out (by intro e; rw [e] at hql; exact absurd hql (by simp))
          subst hA1
          obtain ⟨sb, so, hS1, slt, hsc⟩ := (ints_own (own_below HO.out HW.out)) (by intro e; rw [e] at hps; exact absurd hps (by simp))
          subst hS1
          obtain ⟨b2, o2, _, _, hA2, blt, _, ph, _, _, _⟩ := ((HA.out.below HB.out).below HW.out).atStep hpl
          injection hA2 with hA2
          injection hA2 with hA2 ho2
          subst hA2 ho2
          have k0 : wr.cell? ⟨rb, ro + q, none⟩ = some (.int .i64 (p : Int)) := by rw [← hp]; exact hrc q _ (List.getElem?_eq_getElem hql)
          have k1 := hsc p _ (List.getElem?_eq_getElem hps)
          have b1 := HBD.out p hps
          have b2 := step_hours HH.out hpl
          have w1 : IntKind.i64.wrap ((earlyTo xs k)[p] + xs[p].fHours) = (earlyTo xs k)[p] + xs[p].fHours := IntWalk.i64_in _ (by omega)
          have q2 : (0 : Int) ≤ (q : Int) := by omega
          have q3 : (q : Int) < xs[k].fIn.length := by omega
          have p0 : (0 : Int) ≤ (p : Int) := by omega
          have p1 : (p : Int) < xs.length := by omega
          have p2 : (p : Int) < (earlyTo xs k).length := by omega
          have HN := hid (show readyTo xs (earlyTo xs k) xs[k].fIn (q + 1) = max (readyTo xs (earlyTo xs k) xs[k].fIn q) ((earlyTo xs k)[p] + xs[p].fHours) by
            simp only [readyTo]
            rw [gI_at hql, hp, Int.toNat_natCast, gI_at hps, hN_at hpl])
          clear hrc hsc hp ca cb
          go_wp2_with fail
          go_quiet ((go_at_call 177; with_reducible exact quiet_left (l00Max_ok _ _ _)))
          go_wp2_with fail
          go_roundw
          case rel => exact ⟨q + 1, by omega, by go_num, by rw [HN.out], below_drewN' HW.out _⟩
          case measure => simp [intOf]; omega
        · have hq2 : q = xs[k].fIn.length := by omega
          subst hq2
          have O5 := hid (own_below HO.out HW.out)
          have B5 := hid (below_trans HB.out HW.out)
          go_wp2_with (at_builtin; refine wpList_app (w0 := w) rfl (.tmp 45) (.tmp 47) 23 rfl w.heap.size 2 (.int .i64 0) 1 8 Try.underlying23 infoI rfl (by decide) _ _ _ rfl O5.out #[.int .i64 (readyTo xs (earlyTo xs k) xs[k].fIn xs[k].fIn.length)] 1 1 rfl rfl (by simp [Value.oneCell']) (by omega) B5.out.size B5.out ?_; intro v1 w6 hown1 hbel1 hz1 _; obtain ⟨g6, c6, rfl, hf6⟩ := own_form hown1 (by omega))
          go_roundw
          case rel => exact ⟨k + 1, some ⟨g6, 0, none⟩, c6, by omega, by go_num, by rw [← LE2.out], by rw [← HE.out, ← LE2.out]; exact hown1, hbel1⟩
          case measure => simp [intOf]; omega
    · have hk2 : k = xs.length := by omega
      subst hk2
      clear LE
      go_wp2_with fail
      go_ret
      exact RetI.own HO.out HB.out

end Go.Proofs.Ytnekigpeknenjaa
