/- The first hours of steps; the end of a plan: impl's functions. -/
import Derived.Test.YtnekigpeknenjaaPlanMath
import Derived.Test.YtnekigpeknenjaaHist
namespace Go.Proofs.Ytnekigpeknenjaa
open Go.RowKit
set_option linter.unusedVariables false

set_option maxHeartbeats 1600000 in
set_option maxRecDepth 100000 in
theorem ready_ok (A : Option Addr) (c : Nat) (xs : List DStep) (S : Option Addr) (cS : Nat) (st : List Int) (i : Nat) (w : World) (hA : NestAt 1 hdStep inStep w A xs) (hh : StepsTo xs xs.length) (hn : xs.length ≤ 12) (hi : i < xs.length) (hS : IntsAt w S st) (hsl : i ≤ st.length) (hb : Bd st) (hst : st.length ≤ 1048576) :
    Calls Try.prog 180 #[.slice A xs.length c, .slice S st.length cS, .int .i64 i] w fun e w' => e = .returned (.int .i64 (readyTo xs st xs[i].fIn xs[i].fIn.length)) ∧ Below w.heap.size w w' := by
  have HH := hid hh
  have HA := hid hA
  have HS := hid hS
  have HBD := hid hb
  have l12 : xs[i].fIn.length ≤ 12 := by
    have h1 := rises_length (hh i hi hi).2.1 (by omega)
    omega
  obtain ⟨b, o, A', c', rfl, hlt, hc0, hc1, hc2, hc3, hr⟩ := hA.atStep hi
  have HR := hid (rows_ints hr)
  have x0 : (0 : Int) ≤ (i : Int) := by omega
  have x1 : (i : Int) < xs.length := by omega
  clear hA hh hS hb hr
  go_enter Try.func180, Try.ntmps180
  go_wp2_with fail
  go_loopw [7, 16] (fun h m wr => ∃ q : Nat, q ≤ xs[i].fIn.length ∧ m = .int .i64 q ∧ h = .int .i64 (readyTo xs st xs[i].fIn q) ∧ Below w.heap.size w wr) (fun _ m _ => xs[i].fIn.length - (intOf m).toNat)
  case atStart => exact ⟨0, Nat.zero_le _, rfl, rfl, Below.refl _ _⟩
  case round =>
    obtain ⟨q, hq, rfl, rfl, hbel⟩ := hrel
    have HB := hid hbel
    clear hbel
    by_cases hql : q < xs[i].fIn.length
    · obtain ⟨ca, cb⟩ := step_after HH.out hi hql
      obtain ⟨p, hp⟩ : ∃ p : Nat, xs[i].fIn[q] = (p : Int) := ⟨xs[i].fIn[q].toNat, by omega⟩
      have hpl : p < xs.length := by omega
      have hps : p < st.length := by omega
      obtain ⟨rb, ro, hA1, rlt, hrc⟩ := HR.out (by intro e; rw [e] at hql; exact absurd hql (by simp))
      subst hA1
      obtain ⟨sb, so, hS1, slt, hsc⟩ := HS.out (by intro e; rw [e] at hps; exact absurd hps (by simp))
      subst hS1
      obtain ⟨b2, o2, _, _, hA2, blt, _, ph, _, _, _⟩ := HA.out.atStep hpl
      injection hA2 with hA2
      injection hA2 with hA2 ho2
      subst hA2 ho2
      have k0 : wr.cell? ⟨rb, ro + q, none⟩ = some (.int .i64 (p : Int)) := by rw [← hp]; exact (HB.out.cell (p := ⟨rb, ro + q, none⟩) rlt).trans (hrc q _ (List.getElem?_eq_getElem hql))
      have k1 : wr.cell? ⟨sb, so + p, none⟩ = some (.int .i64 st[p]) := (HB.out.cell (p := ⟨sb, so + p, none⟩) slt).trans (hsc p _ (List.getElem?_eq_getElem hps))
      have k2 : wr.cell? ⟨b, o + p * 4 + 1, none⟩ = some (.int .i64 xs[p].fHours) := (HB.out.cell (p := ⟨b, o + p * 4 + 1, none⟩) blt).trans ph
      have b1 := HBD.out p hps
      have b2 := step_hours HH.out hpl
      have w1 : IntKind.i64.wrap (st[p] + xs[p].fHours) = st[p] + xs[p].fHours := IntWalk.i64_in _ (by omega)
      have q0 : (0 : Int) ≤ (q : Int) := by omega
      have q1 : (q : Int) < xs[i].fIn.length := by omega
      have p0 : (0 : Int) ≤ (p : Int) := by omega
      have p1 : (p : Int) < xs.length := by omega
      have p2 : (p : Int) < st.length := by omega
      have HN := hid (show readyTo xs st xs[i].fIn (q + 1) = max (readyTo xs st xs[i].fIn q) (st[p] + xs[p].fHours) by
        simp only [readyTo]
        rw [gI_at hql, hp, Int.toNat_natCast, gI_at hps, hN_at hpl])
      clear hrc hsc ph hp ca cb
      go_wp2_with fail
      go_quiet (fail)
      go_wp2_with fail
      go_roundw
      case rel => exact ⟨q + 1, by omega, by go_num, by rw [HN.out]; congr 1; split <;> omega, below_drewN' HB.out _⟩
      case measure => simp [intOf]; omega
    · have hq2 : q = xs[i].fIn.length := by omega
      subst hq2
      go_wp2_with fail
      go_ret
      exact ⟨rfl, HB.out⟩

set_option maxHeartbeats 1600000 in
set_option maxRecDepth 100000 in
theorem ended_ok (A : Option Addr) (c : Nat) (xs : List DStep) (S : Option Addr) (cS : Nat) (st : List Int) (w : World) (hA : NestAt 1 hdStep inStep w A xs) (hh : StepsTo xs xs.length) (hn : xs.length ≤ 12) (hS : IntsAt w S st) (hsl : st.length = xs.length) (hb : Bd st) :
    Calls Try.prog 126 #[.slice A xs.length c, .slice S st.length cS] w fun e w' => e = .returned (.int .i64 (endTo xs st xs.length)) ∧ Below w.heap.size w w' := by
  have HH := hid hh
  have HA := hid hA
  have HS := hid hS
  have HBD := hid hb
  have HSL := hid hsl
  have hst : st.length ≤ 1048576 := by omega
  clear hA hh hS hb hsl
  go_enter Try.func126, Try.ntmps126
  go_wp2_with fail
  go_loopw [5, 10] (fun h m wr => ∃ k : Nat, k ≤ xs.length ∧ m = .int .i64 k ∧ h = .int .i64 (endTo xs st k) ∧ Below w.heap.size w wr) (fun _ m _ => xs.length - (intOf m).toNat)
  case atStart => exact ⟨0, Nat.zero_le _, rfl, rfl, Below.refl _ _⟩
  case round =>
    obtain ⟨k, hk, rfl, rfl, hbel⟩ := hrel
    have HB := hid hbel
    clear hbel
    by_cases hkl : k < xs.length
    · have hks : k < st.length := by have := HSL.out; omega
      obtain ⟨b, o, A', c', rfl, hlt, hc0, hc1, hc2, hc3, hr⟩ := (HA.out.below HB.out).atStep hkl
      obtain ⟨sb, so, hS1, slt, hsc⟩ := HS.out (by intro e; rw [e] at hks; exact absurd hks (by simp))
      subst hS1
      have NC := hid (HasC.new wr [.string xs[k].fId, .int .i64 xs[k].fHours, .int .i64 xs[k].fClamps, .slice A' xs[k].fIn.length c'] 146)
      have n1 := NC.out.2 1 _ rfl
      have k1 : (wr.alloc (.cells #[.string xs[k].fId, .int .i64 xs[k].fHours, .int .i64 xs[k].fClamps, .slice A' xs[k].fIn.length c'] 146)).cell? ⟨sb, so + k, none⟩ = some (.int .i64 st[k]) := ((HB.out.alloc HB.out.size _).cell (p := ⟨sb, so + k, none⟩) slt).trans (hsc k _ (List.getElem?_eq_getElem hks))
      have b1 := HBD.out k hks
      have b2 := step_hours HH.out hkl
      have w1 : IntKind.i64.wrap (st[k] + xs[k].fHours) = st[k] + xs[k].fHours := IntWalk.i64_in _ (by omega)
      have q0 : (0 : Int) ≤ (k : Int) := by omega
      have q1 : (k : Int) < xs.length := by omega
      have q2 : (k : Int) < st.length := by omega
      have HN := hid (show endTo xs st (k + 1) = max (endTo xs st k) (st[k] + xs[k].fHours) by
        simp only [endTo]
        rw [gI_at hks, hN_at hkl])
      clear hr hsc
      go_wp2_with fail
      go_quiet (fail)
      go_wp2_with fail
      go_roundw
      case rel => exact ⟨k + 1, by omega, by go_num, by rw [HN.out]; congr 1; split <;> omega, below_drewN' (HB.out.alloc HB.out.size _) _⟩
      case measure => simp [intOf]; omega
    · have hk2 : k = xs.length := by omega
      subst hk2
      go_wp2_with fail
      go_ret
      exact ⟨rfl, HB.out⟩

set_option maxHeartbeats 1600000 in
set_option maxRecDepth 100000 in
theorem earliest_ok (A : Option Addr) (c : Nat) (xs : List DStep) (w : World) (hA : NestAt 1 hdStep inStep w A xs) (hh : StepsTo xs xs.length) (hn : xs.length ≤ 12) :
    Calls Try.prog 131 #[.slice A xs.length c] w (RetI w (earlyTo xs xs.length)) := by
  have HH := hid hh
  have HA := hid hA
  clear hA hh
  go_enter Try.func131, Try.ntmps131
  go_wp2_with fail
  go_loopw [3, 8] (fun v m wr => ∃ (k : Nat) (Ac : Option Addr) (cc : Nat), k ≤ xs.length ∧ m = .int .i64 k ∧ v = .slice Ac (earlyTo xs k).length cc ∧ wr.ownsRow w.heap.size 2 1 (.slice Ac (earlyTo xs k).length cc) (earlyTo xs k).length ((earlyTo xs k).map (Value.int .i64)) ∧ Below w.heap.size w wr) (fun _ m _ => xs.length - (intOf m).toNat)
  case atStart => exact ⟨0, _, _, Nat.zero_le _, rfl, rfl, World.ownsRow_lit _ _ 0 (Nat.le_refl _) (by unfold maxLen; omega) rfl, below_alloc _ _⟩
  case round =>
    obtain ⟨k, Ac, cc, hk, rfl, rfl, hown, hbel⟩ := hrel
    have HO := hid hown
    have HB := hid hbel
    have LE := earlyTo_len xs k
    clear hown hbel
    by_cases hkl : k < xs.length
    · have q0 : (0 : Int) ≤ (k : Int) := by omega
      have q1 : (k : Int) < xs.length := by omega
      have HE := hid (show (earlyTo xs k).map (Value.int .i64) ++ [.int .i64 (readyTo xs (earlyTo xs k) xs[k].fIn xs[k].fIn.length)] = (earlyTo xs (k + 1)).map (Value.int .i64) by
        rw [earlyTo, List.map_append, readyN_at hkl]
        rfl)
      have LE2 := hid (show (earlyTo xs k).length + 1 = (earlyTo xs (k + 1)).length by rw [earlyTo_len, earlyTo_len])
      have LK := hid LE
      have hl2 : (earlyTo xs k).length ≤ 12 := by omega
      clear LE
      go_wp2_with (first
        | (go_at_call 180; refine (ready_ok _ _ xs Ac cc (earlyTo xs k) k _ (HA.out.below HB.out) HH.out hn hkl (ints_own HO.out) (by rw [LK.out]; exact Nat.le_refl _) (early_bd HH.out k hk) (by omega)).mono ?_; rintro e w5 ⟨rfl, hb5⟩; have O5 := hid (own_below HO.out hb5); have B5 := hid (below_trans HB.out hb5))
        | (at_builtin; refine wpList_app (w0 := w) rfl (.tmp 11) (.tmp 16) 23 rfl w.heap.size 2 (.int .i64 0) 1 8 Try.underlying23 infoI rfl (by decide) _ _ _ rfl O5.out #[.int .i64 (readyTo xs (earlyTo xs k) xs[k].fIn xs[k].fIn.length)] 1 1 rfl rfl (by simp [Value.oneCell']) (by omega) B5.out.size B5.out ?_; intro v1 w6 hown1 hbel1 hz1 _; obtain ⟨g6, c6, rfl, hf6⟩ := own_form hown1 (by omega)))
      go_roundw
      case rel => exact ⟨k + 1, some ⟨g6, 0, none⟩, c6, by omega, by go_num, by rw [← LE2.out], by rw [← HE.out, ← LE2.out]; exact hown1, hbel1⟩
      case measure => simp [intOf]; omega
    · have hk2 : k = xs.length := by omega
      subst hk2
      clear LE
      go_wp2_with fail
      go_ret
      exact RetI.own HO.out HB.out

end Go.Proofs.Ytnekigpeknenjaa
