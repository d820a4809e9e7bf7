/- CriticalSteps and its reference. -/
import Derived.Test.YtnekigpeknenjaaClampMath
import Derived.Test.YtnekigpeknenjaaLate
import Derived.Test.YtnekigpeknenjaaLateS
import Derived.Test.YtnekigpeknenjaaVStepS
import Derived.Test.YtnekigpeknenjaaRet
import Derived.Deep.RegionHeld3
namespace Go.Proofs.Ytnekigpeknenjaa
open Go.RowKit
set_option linter.unusedVariables false


noncomputable def fCrit (xs : List DStep) : List Int × Int := if stepsB xs = false then ([], 1) else (critTo xs xs.length, 0)
theorem fCrit_small (xs : List DStep) : (fCrit xs).1.length ≤ 12 := by
  unfold fCrit
  split
  · simp
  · rename_i h1
    have h := stepsB_iff.1 (by simpa using h1)
    have := critTo_len xs xs.length
    show (critTo xs xs.length).length ≤ 12
    omega


set_option maxHeartbeats 1600000 in
set_option maxRecDepth 100000 in
theorem implCrit_ok (A : Option Addr) (c : Nat) (xs : List DStep) (w : World) (hA : NestAt 1 hdStep inStep w A xs) (hok : ∀ x ∈ xs, x.ok) (hn : xs.length ≤ 1048576) (hi : ∀ x ∈ xs, x.fIn.length ≤ 1048576) :
    Calls Try.prog 45 #[.slice A xs.length c] w (RetIC w (fCrit xs)) := by
  have HA := hid hA
  have HK := hid hok
  have HI := hid hi
  clear hA hok hi
  cases c1 : stepsB xs
  · have HF := hid (show fCrit xs = ([], 1) by unfold fCrit; rw [if_pos c1])
    go_enter Try.func45, Try.ntmps45
    go_wp2_with fail
    refine (ValidSteps_ok A c xs _ HA.out HK.out hn HI.out).mono ?_
    rintro e w1 ⟨rfl, hb⟩
    go_wp2_with fail
    go_ret2
    exact RetIC.nil HF.out hb
  have HF := hid (show fCrit xs = (critTo xs xs.length, 0) by unfold fCrit; rw [if_neg (by rw [c1]; exact fun h => by cases h)])
  have HH := hid (stepsB_iff.1 c1)
  have hx12 := HH.out.2
  go_enter Try.func45, Try.ntmps45
  go_wp2_with fail
  refine (ValidSteps_ok A c xs _ HA.out HK.out hn HI.out).mono ?_
  rintro e w1 ⟨rfl, hb⟩
  have B1 := hid hb
  clear hb
  go_wp2_with (first | (go_at_call 129; refine (latest_ok _ _ xs _ (HA.out.below B2.out) HH.out.1 HH.out.2).mono ?_; rintro e w3 ⟨A3, c3, rfl, ho3, hno3, hb3⟩; have B3 := hid (below_trans B2.out hb3); have O3 := hid ho3; have P2 := hid (own_below O2.out hb3); clear ho3 hb3) | (go_at_call 131; refine (earliest_ok _ _ xs _ (HA.out.below B1.out) HH.out.1 HH.out.2).mono ?_; rintro e w2 ⟨A2, c2, rfl, ho2, hno2, hb2⟩; have B2 := hid (below_trans B1.out hb2); have O2 := hid ho2; clear ho2 hb2))
  have LE := hid (earlyTo_len xs xs.length)
  have LL := hid (lateTo_len xs xs.length)
  have HE := hid (ints_own P2.out)
  have HL := hid (ints_own O3.out)
  have hl1 : (earlyTo xs xs.length).length = xs.length := LE.out
  have hl2 : (lateTo xs xs.length).length = xs.length := LL.out
  rw [hl1, hl2]
  clear hl1 hl2
  rename World => w3
  go_loopw [6, 18] (fun v m wr => ∃ (k : Nat) (Ac : Option Addr) (cc : Nat), k ≤ xs.length ∧ m = .int .i64 k ∧ v = .slice Ac (critTo xs k).length cc ∧ wr.ownsRow w3.heap.size 2 1 (.slice Ac (critTo xs k).length cc) (critTo xs k).length ((critTo xs k).map (Value.int .i64)) ∧ Below w3.heap.size w3 wr) (fun _ m _ => xs.length - (intOf m).toNat)
  case atStart => exact ⟨0, _, _, Nat.zero_le _, rfl, rfl, World.ownsRow_lit _ _ 0 (Nat.le_refl _) (by unfold maxLen; omega) rfl, below_alloc _ _⟩
  case round =>
    obtain ⟨k, Ac, cc, hk, rfl, rfl, hown, hbel⟩ := hrel
    have HO := hid hown
    have HB := hid hbel
    have hcl := critTo_len xs k
    clear hown hbel
    by_cases hkl : k < xs.length
    · have q0 : (0 : Int) ≤ (k : Int) := by omega
      have q1 : (k : Int) < xs.length := by omega
      have he : k < (earlyTo xs xs.length).length := by rw [LE.out]; exact hkl
      have hl : k < (lateTo xs xs.length).length := by rw [LL.out]; exact hkl
      obtain ⟨eb, eo, hE1, elt, ec⟩ := HE.out (by intro e; rw [e] at he; exact absurd he (by simp))
      obtain ⟨lb, lo, hL1, llt, lc⟩ := HL.out (by intro e; rw [e] at hl; exact absurd hl (by simp))
      subst hE1 hL1
      have k1 : wr.cell? ⟨eb, eo + k, none⟩ = some (.int .i64 (gI (earlyTo xs xs.length) k)) := by rw [gI_at he]; exact (HB.out.cell (p := ⟨eb, eo + k, none⟩) elt).trans (ec k _ (List.getElem?_eq_getElem he))
      have k2 : wr.cell? ⟨lb, lo + k, none⟩ = some (.int .i64 (gI (lateTo xs xs.length) k)) := by rw [gI_at hl]; exact (HB.out.cell (p := ⟨lb, lo + k, none⟩) llt).trans (lc k _ (List.getElem?_eq_getElem hl))
      clear ec lc he hl
      by_cases heq : gI (earlyTo xs xs.length) k = gI (lateTo xs xs.length) k
      · have e1 : (gI (earlyTo xs xs.length) k == gI (lateTo xs xs.length) k) = true := by rw [beq_iff_eq]; exact heq
        have HC := hid (critTo_yes heq)
        clear heq
        go_wp2_with fail
        go_quiet (fail)
        have O5 := hid (show ∀ n, (wr.drewN n).ownsRow w3.heap.size 2 1 (.slice Ac (critTo xs k).length cc) (critTo xs k).length ((critTo xs k).map (Value.int .i64)) from fun n => own_below HO.out (below_drewN _ _))
        have B5 := hid (show ∀ n, Below w3.heap.size w3 (wr.drewN n) from fun n => below_drewN' HB.out n)
        go_wp2_with (at_builtin; refine wpList_app (w0 := w3) rfl (.tmp 30) (.tmp 32) 23 rfl w3.heap.size 2 (.int .i64 0) 1 8 Try.underlying23 infoI rfl (by decide) _ _ _ rfl (O5.out _) #[.int .i64 (k : Int)] 1 1 rfl rfl (by simp [Value.oneCell']) (by omega) (B5.out _).size (B5.out _) ?_; intro v1 w6 hown1 hbel1 hz1 _; obtain ⟨g6, c6, rfl, hf6⟩ := own_form hown1 (by omega))
        go_roundw
        case rel => exact ⟨k + 1, some ⟨g6, 0, none⟩, c6, by omega, by go_num, by rw [HC.out, List.length_append]; rfl, by rw [HC.out, List.length_append, List.map_append]; exact hown1, hbel1⟩
        case measure => simp [intOf]; omega
      · have e1 : (gI (earlyTo xs xs.length) k == gI (lateTo xs xs.length) k) = false := by rw [beq_eq_false_iff_ne]; exact heq
        have HC := hid (critTo_no heq)
        clear heq
        go_wp2_with fail
        go_quiet (fail)
        go_wp2_with fail
        go_roundw
        case rel => exact ⟨k + 1, Ac, cc, by omega, by go_num, by rw [HC.out], by rw [HC.out]; exact own_below HO.out (below_drewN _ _), below_drewN' HB.out _⟩
        case measure => simp [intOf]; omega
    · have hk2 : k = xs.length := by omega
      subst hk2
      go_wp2_with fail
      go_ret2
      exact RetIC.own HF.out (own_mono HO.out B3.out.size) (B3.out.trans (HB.out.mono B3.out.size))


set_option maxHeartbeats 1600000 in
set_option maxRecDepth 100000 in
theorem specCrit_ok (A : Option Addr) (c : Nat) (xs : List DStep) (w : World) (hA : NestAt 1 hdStep inStep w A xs) (hok : ∀ x ∈ xs, x.ok) (hn : xs.length ≤ 1048576) (hi : ∀ x ∈ xs, x.fIn.length ≤ 1048576) :
    Calls Try.prog 44 #[.slice A xs.length c] w (RetIC w (fCrit xs)) := by
  have HA := hid hA
  have HK := hid hok
  have HI := hid hi
  clear hA hok hi
  cases c1 : stepsB xs
  · have HF := hid (show fCrit xs = ([], 1) by unfold fCrit; rw [if_pos c1])
    go_enter Try.func44, Try.ntmps44
    go_wp2_with fail
    refine (l17Ok_ok A c xs _ HA.out HK.out hn HI.out).mono ?_
    rintro e w1 ⟨rfl, hb⟩
    go_wp2_with fail
    go_ret2
    exact RetIC.nil HF.out hb
  have HF := hid (show fCrit xs = (critTo xs xs.length, 0) by unfold fCrit; rw [if_neg (by rw [c1]; exact fun h => by cases h)])
  have HH := hid (stepsB_iff.1 c1)
  have hx12 := HH.out.2
  go_enter Try.func44, Try.ntmps44
  go_wp2_with fail
  refine (l17Ok_ok A c xs _ HA.out HK.out hn HI.out).mono ?_
  rintro e w1 ⟨rfl, hb⟩
  have B1 := hid hb
  clear hb
  go_wp2_with (first | (go_at_call 128; refine (l17Late_ok _ _ xs _ (HA.out.below B2.out) HH.out.1 HH.out.2).mono ?_; rintro e w3 ⟨A3, c3, rfl, ho3, hno3, hb3⟩; rw [late_eq HH.out.1] at ho3; rw [late_eq HH.out.1]; have B3 := hid (below_trans B2.out hb3); have O3 := hid ho3; have P2 := hid (own_below O2.out hb3); clear ho3 hb3) | (go_at_call 130; refine (l17Early_ok _ _ xs _ (HA.out.below B1.out) HH.out.1 HH.out.2).mono ?_; rintro e w2 ⟨A2, c2, rfl, ho2, hno2, hb2⟩; have B2 := hid (below_trans B1.out hb2); have O2 := hid ho2; clear ho2 hb2))
  have LE := hid (earlyTo_len xs xs.length)
  have LL := hid (lateTo_len xs xs.length)
  have HE := hid (ints_own P2.out)
  have HL := hid (ints_own O3.out)
  have hl1 : (earlyTo xs xs.length).length = xs.length := LE.out
  have hl2 : (lateTo xs xs.length).length = xs.length := LL.out
  rw [hl1, hl2]
  clear hl1 hl2
  rename World => w3
  go_loopw [6, 7] (fun v m wr => ∃ (k : Nat) (Ac : Option Addr) (cc : Nat), k ≤ xs.length ∧ m = .int .i64 k ∧ v = .slice Ac (critTo xs k).length cc ∧ wr.ownsRow w3.heap.size 2 1 (.slice Ac (critTo xs k).length cc) (critTo xs k).length ((critTo xs k).map (Value.int .i64)) ∧ Below w3.heap.size w3 wr) (fun _ m _ => xs.length - (intOf m).toNat)
  case atStart => exact ⟨0, _, _, Nat.zero_le _, rfl, rfl, World.ownsRow_lit _ _ 0 (Nat.le_refl _) (by unfold maxLen; omega) rfl, below_alloc _ _⟩
  case round =>
    obtain ⟨k, Ac, cc, hk, rfl, rfl, hown, hbel⟩ := hrel
    have HO := hid hown
    have HB := hid hbel
    have hcl := critTo_len xs k
    clear hown hbel
    by_cases hkl : k < xs.length
    · have q0 : (0 : Int) ≤ (k : Int) := by omega
      have q1 : (k : Int) < xs.length := by omega
      have he : k < (earlyTo xs xs.length).length := by rw [LE.out]; exact hkl
      have hl : k < (lateTo xs xs.length).length := by rw [LL.out]; exact hkl
      obtain ⟨eb, eo, hE1, elt, ec⟩ := HE.out (by intro e; rw [e] at he; exact absurd he (by simp))
      obtain ⟨lb, lo, hL1, llt, lc⟩ := HL.out (by intro e; rw [e] at hl; exact absurd hl (by simp))
      subst hE1 hL1
      have k1 : wr.cell? ⟨eb, eo + k, none⟩ = some (.int .i64 (gI (earlyTo xs xs.length) k)) := by rw [gI_at he]; exact (HB.out.cell (p := ⟨eb, eo + k, none⟩) elt).trans (ec k _ (List.getElem?_eq_getElem he))
      have k2 : wr.cell? ⟨lb, lo + k, none⟩ = some (.int .i64 (gI (lateTo xs xs.length) k)) := by rw [gI_at hl]; exact (HB.out.cell (p := ⟨lb, lo + k, none⟩) llt).trans (lc k _ (List.getElem?_eq_getElem hl))
      clear ec lc he hl
      by_cases heq : gI (earlyTo xs xs.length) k = gI (lateTo xs xs.length) k
      · have e1 : (gI (earlyTo xs xs.length) k == gI (lateTo xs xs.length) k) = true := by rw [beq_iff_eq]; exact heq
        have HC := hid (critTo_yes heq)
        clear heq
        go_wp2_with fail
        go_quiet (fail)
        have O5 := hid (show ∀ n, (wr.drewN n).ownsRow w3.heap.size 2 1 (.slice Ac (critTo xs k).length cc) (critTo xs k).length ((critTo xs k).map (Value.int .i64)) from fun n => own_below HO.out (below_drewN _ _))
        have B5 := hid (show ∀ n, Below w3.heap.size w3 (wr.drewN n) from fun n => below_drewN' HB.out n)
        go_wp2_with (at_builtin; refine wpList_app (w0 := w3) rfl (.tmp 31) (.tmp 33) 23 rfl w3.heap.size 2 (.int .i64 0) 1 8 Try.underlying23 infoI rfl (by decide) _ _ _ rfl (O5.out _) #[.int .i64 (k : Int)] 1 1 rfl rfl (by simp [Value.oneCell']) (by omega) (B5.out _).size (B5.out _) ?_; intro v1 w6 hown1 hbel1 hz1 _; obtain ⟨g6, c6, rfl, hf6⟩ := own_form hown1 (by omega))
        go_roundw
        case rel => exact ⟨k + 1, some ⟨g6, 0, none⟩, c6, by omega, by go_num, by rw [HC.out, List.length_append]; rfl, by rw [HC.out, List.length_append, List.map_append]; exact hown1, hbel1⟩
        case measure => simp [intOf]; omega
      · have e1 : (gI (earlyTo xs xs.length) k == gI (lateTo xs xs.length) k) = false := by rw [beq_eq_false_iff_ne]; exact heq
        have HC := hid (critTo_no heq)
        clear heq
        go_wp2_with fail
        go_quiet (fail)
        go_wp2_with fail
        go_roundw
        case rel => exact ⟨k + 1, Ac, cc, by omega, by go_num, by rw [HC.out], by rw [HC.out]; exact own_below HO.out (below_drewN _ _), below_drewN' HB.out _⟩
        case measure => simp [intOf]; omega
    · have hk2 : k = xs.length := by omega
      subst hk2
      go_wp2_with fail
      go_ret2
      exact RetIC.own HF.out (own_mono HO.out B3.out.size) (B3.out.trans (HB.out.mono B3.out.size))

end Go.Proofs.Ytnekigpeknenjaa
