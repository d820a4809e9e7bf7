/- BestCoats and its reference. -/
import Derived.Test.YtdbjbkdcmhekfaaCoaS
import Derived.Test.YtdbjbkdcmhekfaaRetIIC
import Derived.Test.YtdbjbkdcmhekfaaRange
namespace Go.Proofs.Ytdbjbkdcmhekfaa
open Go.RowKit
set_option linter.unusedVariables false

theorem coatsB_all {xs : List DCoat} (h : coatsB xs = true) : ∀ x ∈ xs, coatD x = true := fun x hx => by
  obtain ⟨j, hj, rfl⟩ := List.getElem_of_mem hx
  exact ((coatsB_iff.1 h).1 j hj hj).1
theorem bestC_len {S : WS} {t : List Nat} {g : Int} (h : t.length ≤ 10) (h2 : S.best.length ≤ 10) : (bestC S t g).best.length ≤ 10 := by
  unfold bestC
  split
  · exact h
  · exact h2
theorem srchC_len {xs : List DCoat} {goal : List Int} : ∀ (m : Nat) (t : List Nat) (c : List Int) (S S' : WS), t.length + m ≤ 10 → S.best.length ≤ 10 → srchC xs goal m t c S = some S' → S'.best.length ≤ 10
  | 0, t, c, S, S', h, h2, e => by
    by_cases hl : S.left = 0
    · rw [srchC_none hl] at e; cases e
    · rw [srchC_zero hl] at e
      injection e with e
      rw [← e]
      exact bestC_len (by omega) h2
  | m + 1, t, c, S, S', h, h2, e => by
    by_cases hl : S.left = 0
    · rw [srchC_none hl] at e; cases e
    · rw [srchC_succ hl] at e
      exact loopO_keep (q := fun S => S.best.length ≤ 10) (fun k S1 S2 h3 h4 => srchC_len m (t ++ [k]) _ S1 S2 (by rw [List.length_append, List.length_singleton]; omega) h3 h4) xs.length 0 _ S' (bestC_len (by omega) h2) e

set_option maxHeartbeats 3200000 in
set_option maxRecDepth 100000 in
theorem implCoa_ok (A : Option Addr) (c : Nat) (xs : List DCoat) (R : Option Addr) (cR : Nat) (gr : List Int) (Gg : Option Addr) (cg : Nat) (go : List Int) (mo bud : Int) (w : World) (hA : NestAt 1 hdCoat inCoat w A xs) (hok : ∀ x ∈ xs, x.ok) (hn : xs.length ≤ 1048576) (hi : ∀ x ∈ xs, x.fIn.length ≤ 1048576) (hR : IntsAt w R gr) (hnr : gr.length ≤ 1048576) (hG : IntsAt w Gg go) (hng : go.length ≤ 1048576) :
    Calls Try.prog 37 #[.slice A xs.length c, .slice R gr.length cR, .slice Gg go.length cg, .int .i64 mo, .int .i64 bud] w (RetIIC w (fCoa xs gr go mo bud)) := by
  have HA := hid hA
  have HK := hid hok
  have HR := hid hR
  have HG := hid hG
  clear hA hok hi hR hG
  cases c1 : coatsB xs
  · have HF := hid (show fCoa xs gr go mo bud = ([], 0, 1) by unfold fCoa; rw [if_pos (.inl c1)])
    go_enter Try.func37, Try.ntmps37
    go_wp2_with fail
    refine (ValidCoats_ok A c xs _ HA.out HK.out hn).mono ?_
    rintro e w1 ⟨rfl, hb1⟩
    have B1 := hid hb1
    clear hb1
    rw [c1]
    go_wp2_with fail
    go_ret3
    exact RetIIC.nil HF.out B1.out
  cases c2 : colB gr
  · have HF := hid (show fCoa xs gr go mo bud = ([], 0, 1) by unfold fCoa; rw [if_pos (.inr (.inl c2))])
    go_enter Try.func37, Try.ntmps37
    go_wp2_with fail
    refine (ValidCoats_ok A c xs _ HA.out HK.out hn).mono ?_
    rintro e w1 ⟨rfl, hb1⟩
    have B1 := hid hb1
    clear hb1
    rw [c1]
    go_wp2_with fail
    refine (isColour_ok R cR gr _ (HR.out.below B1.out) (by omega)).mono ?_
    rintro e w2 ⟨rfl, hb2⟩
    have B2 := hid (below_trans B1.out hb2)
    clear hb2
    rw [c2]
    go_wp2_with fail
    go_ret3
    exact RetIIC.nil HF.out B2.out
  cases c3 : colB go
  · have HF := hid (show fCoa xs gr go mo bud = ([], 0, 1) by unfold fCoa; rw [if_pos (.inr (.inr c3))])
    go_enter Try.func37, Try.ntmps37
    go_wp2_with fail
    refine (ValidCoats_ok A c xs _ HA.out HK.out hn).mono ?_
    rintro e w1 ⟨rfl, hb1⟩
    have B1 := hid hb1
    clear hb1
    rw [c1]
    go_wp2_with fail
    refine (isColour_ok R cR gr _ (HR.out.below B1.out) (by omega)).mono ?_
    rintro e w2 ⟨rfl, hb2⟩
    have B2 := hid (below_trans B1.out hb2)
    clear hb2
    rw [c2]
    go_wp2_with fail
    refine (isColour_ok Gg cg go _ (HG.out.below B2.out) (by omega)).mono ?_
    rintro e w3 ⟨rfl, hb3⟩
    have B3 := hid (below_trans B2.out hb3)
    clear hb3
    rw [c3]
    go_wp2_with fail
    go_ret3
    exact RetIIC.nil HF.out B3.out
  have HV := hid (show ¬ (coatsB xs = false ∨ colB gr = false ∨ colB go = false) by rw [c1, c2, c3]; simp)
  cases c4 : inB mo 0 10
  · have HF := hid (show fCoa xs gr go mo bud = ([], 0, 2) by unfold fCoa; rw [if_neg HV.out, if_pos (.inl c4)])
    go_enter Try.func37, Try.ntmps37
    go_wp2_with fail
    refine (ValidCoats_ok A c xs _ HA.out HK.out hn).mono ?_
    rintro e w1 ⟨rfl, hb1⟩
    have B1 := hid hb1
    clear hb1
    rw [c1]
    go_wp2_with fail
    refine (isColour_ok R cR gr _ (HR.out.below B1.out) (by omega)).mono ?_
    rintro e w2 ⟨rfl, hb2⟩
    have B2 := hid (below_trans B1.out hb2)
    clear hb2
    rw [c2]
    go_wp2_with fail
    refine (isColour_ok Gg cg go _ (HG.out.below B2.out) (by omega)).mono ?_
    rintro e w3 ⟨rfl, hb3⟩
    have B3 := hid (below_trans B2.out hb3)
    clear hb3
    rw [c3]
    go_wp2_with (go_at_call 73; refine (within_ok _ _ _ _).mono ?_; rintro e w' ⟨rfl, rfl⟩)
    go_ret3
    exact RetIIC.nil HF.out B3.out
  cases c5 : inB bud 1 20000
  · have HF := hid (show fCoa xs gr go mo bud = ([], 0, 2) by unfold fCoa; rw [if_neg HV.out, if_pos (.inr c5)])
    go_enter Try.func37, Try.ntmps37
    go_wp2_with fail
    refine (ValidCoats_ok A c xs _ HA.out HK.out hn).mono ?_
    rintro e w1 ⟨rfl, hb1⟩
    have B1 := hid hb1
    clear hb1
    rw [c1]
    go_wp2_with fail
    refine (isColour_ok R cR gr _ (HR.out.below B1.out) (by omega)).mono ?_
    rintro e w2 ⟨rfl, hb2⟩
    have B2 := hid (below_trans B1.out hb2)
    clear hb2
    rw [c2]
    go_wp2_with fail
    refine (isColour_ok Gg cg go _ (HG.out.below B2.out) (by omega)).mono ?_
    rintro e w3 ⟨rfl, hb3⟩
    have B3 := hid (below_trans B2.out hb3)
    clear hb3
    rw [c3]
    go_wp2_with (go_at_call 73; refine (within_ok _ _ _ _).mono ?_; rintro e w' ⟨rfl, rfl⟩)
    go_ret3
    exact RetIIC.nil HF.out B3.out
  have HF := hid (show fCoa xs gr go mo bud = match srchC xs go mo.toNat [] gr ⟨bud.toNat, [], -1⟩ with | none => ([], 0, 5) | some S => (intsN S.best, S.most, 0) by unfold fCoa; rw [if_neg HV.out, if_neg (by rw [c4, c5]; simp)]; rfl)
  have hmo := inB_iff.1 c4
  have hbd := inB_iff.1 c5
  have HX := hid (coatsB_all c1)
  have hl10 := (coatsB_iff.1 c1).2
  have HCR := hid (colB_iff.1 c2)
  have HCG := hid (colB_iff.1 c3)
  have hmn : ((mo.toNat : Nat) : Int) = mo := by omega
  have hbn : ((bud.toNat : Nat) : Int) = bud := by omega
  have HMN := hid hmn
  have HBN := hid hbn
  clear hmn hbn
  go_enter Try.func37, Try.ntmps37
  go_wp2_with fail
  refine (ValidCoats_ok A c xs _ HA.out HK.out hn).mono ?_
  rintro e w1 ⟨rfl, hb1⟩
  have B1 := hid hb1
  clear hb1
  rw [c1]
  go_wp2_with fail
  refine (isColour_ok R cR gr _ (HR.out.below B1.out) (by omega)).mono ?_
  rintro e w2 ⟨rfl, hb2⟩
  have B2 := hid (below_trans B1.out hb2)
  clear hb2
  rw [c2]
  go_wp2_with fail
  refine (isColour_ok Gg cg go _ (HG.out.below B2.out) (by omega)).mono ?_
  rintro e w3 ⟨rfl, hb3⟩
  have B3 := hid (below_trans B2.out hb3)
  clear hb3
  rw [c3]
  go_wp2_with (go_at_call 73; refine (within_ok _ _ _ _).mono ?_; rintro e w' ⟨rfl, rfl⟩)
  have BX := hid (below_alloc w3 (.cells #[.slice A xs.length c, .slice Gg go.length cg, .int .i64 mo, .int .i64 bud, .slice none 0 0, .slice none 0 0, .int .i64 0, .bool false] 151))
  have HO := hid (World.ownsRow_lit (e := 151) (size := 8) w3 #[.slice A xs.length c, .slice Gg go.length cg, .int .i64 mo, .int .i64 bud, .slice none 0 0, .slice none 0 0, .int .i64 0, .bool false] 1 (Nat.le_refl _) (by unfold maxLen; omega) rfl)
  have AX := hid (HA.out.below B3.out)
  have GX := hid (HG.out.below B3.out)
  have HST := hid (show CoaAt w3.heap.size (.slice A xs.length c) (.slice Gg go.length cg) ((mo.toNat : Nat) : Int) (((⟨bud.toNat, [], -1⟩ : WS).left : Nat) : Int) [] (⟨bud.toNat, [], -1⟩ : WS).best (leastF (⟨bud.toNat, [], -1⟩ : WS).most) (decide (0 ≤ (⟨bud.toNat, [], -1⟩ : WS).most)) (w3.alloc (.cells #[.slice A xs.length c, .slice Gg go.length cg, .int .i64 mo, .int .i64 bud, .slice none 0 0, .slice none 0 0, .int .i64 0, .bool false] 151)) by
    show CoaAt w3.heap.size _ _ ((mo.toNat : Nat) : Int) ((bud.toNat : Nat) : Int) [] [] 0 false _
    rw [HMN.out, HBN.out]
    exact ⟨none, 0, none, 0, HO.out, World.ownsRow_nil _ _ _ _, World.ownsRow_nil _ _ _ _, .inl rfl⟩)
  have CX := hid (show ColAt w3.heap.size 4 (w3.alloc (.cells #[.slice A xs.length c, .slice Gg go.length cg, .int .i64 mo, .int .i64 bud, .slice none 0 0, .slice none 0 0, .int .i64 0, .bool false] 151)) R gr by
    obtain ⟨gb, gof, hR, hl, hc⟩ := (HR.out.below B3.out) (by intro e; have := HCR.out.2; rw [e] at this; cases this)
    refine ⟨gb, gof, hR, by simp; omega, by omega, ?_, fun j n hj => (BX.out.cell (p := ⟨gb, gof + j, none⟩) hl).trans (hc j n hj)⟩
    rw [blkAt_of (HO.out.cellAt 4 (by omega))]
    intro e
    cases e)
  refine (coaSearch xs go A c Gg cg w3.heap.size mo.toNat w3 AX.out HX.out hl10 GX.out HCG.out rfl (by omega) mo.toNat [] gr R cR ⟨bud.toNat, [], -1⟩ _ (by simp) HCR.out CX.out (by show bud.toNat ≤ 20000; omega) BX.out HST.out).mono ?_
  rintro e w4 ⟨⟨hb4, -⟩, hr⟩
  have B4 := hid (B3.out.trans (hb4.mono B3.out.size))
  have L4 := hid B3.out.size
  clear hb4
  cases hq : srchC xs go mo.toNat [] gr ⟨bud.toNat, [], -1⟩ with
  | none =>
    rw [hq] at hr
    obtain ⟨rfl, -⟩ := hr
    have HF2 := hid (HF.out.trans (by rw [hq]))
    clear hq
    go_wp2_with fail
    go_ret3
    exact RetIIC.nil HF2.out B4.out
  | some S =>
    rw [hq] at hr
    obtain ⟨rfl, -, At, ct, Ab, cb, ho, -, hs, -⟩ := hr
    have HF2 := hid (HF.out.trans (by rw [hq]))
    have HS := hid hs
    have d5 := ho.cellAt 5 (by omega)
    have d6 := ho.cellAt 6 (by omega)
    simp only [List.getElem?_cons_zero, List.getElem?_cons_succ] at d5 d6
    clear hq ho hs
    go_wp2_with fail
    go_quiet (fail)
    go_wp2_with fail
    go_ret3
    exact RetIIC.own HF2.out (intsN_length _).symm (own_mono (w := w4) HS.out (by have := L4.out; omega)) (below_drewN' B4.out _)

set_option maxHeartbeats 3200000 in
set_option maxRecDepth 100000 in
theorem specCoa_ok (A : Option Addr) (c : Nat) (xs : List DCoat) (R : Option Addr) (cR : Nat) (gr : List Int) (Gg : Option Addr) (cg : Nat) (go : List Int) (mo bud : Int) (w : World) (hA : NestAt 1 hdCoat inCoat w A xs) (hok : ∀ x ∈ xs, x.ok) (hn : xs.length ≤ 1048576) (hi : ∀ x ∈ xs, x.fIn.length ≤ 1048576) (hR : IntsAt w R gr) (hnr : gr.length ≤ 1048576) (hG : IntsAt w Gg go) (hng : go.length ≤ 1048576) :
    Calls Try.prog 34 #[.slice A xs.length c, .slice R gr.length cR, .slice Gg go.length cg, .int .i64 mo, .int .i64 bud] w (RetIIC w (fCoa xs gr go mo bud)) := by
  have HA := hid hA
  have HK := hid hok
  have HR := hid hR
  have HG := hid hG
  clear hA hok hi hR hG
  cases c1 : coatsB xs
  · have HF := hid (show fCoa xs gr go mo bud = ([], 0, 1) by unfold fCoa; rw [if_pos (.inl c1)])
    go_enter Try.func34, Try.ntmps34
    go_wp2_with fail
    refine (l13Ok_ok A c xs _ HA.out HK.out hn).mono ?_
    rintro e w1 ⟨rfl, hb1⟩
    have B1 := hid hb1
    clear hb1
    rw [c1]
    go_wp2_with fail
    go_ret3
    exact RetIIC.nil HF.out B1.out
  cases c2 : colB gr
  · have HF := hid (show fCoa xs gr go mo bud = ([], 0, 1) by unfold fCoa; rw [if_pos (.inr (.inl c2))])
    go_enter Try.func34, Try.ntmps34
    go_wp2_with fail
    refine (l13Ok_ok A c xs _ HA.out HK.out hn).mono ?_
    rintro e w1 ⟨rfl, hb1⟩
    have B1 := hid hb1
    clear hb1
    rw [c1]
    go_wp2_with fail
    refine (l13Colour_ok R cR gr _ (HR.out.below B1.out) (by omega)).mono ?_
    rintro e w2 ⟨rfl, hb2⟩
    have B2 := hid (below_trans B1.out hb2)
    clear hb2
    rw [c2]
    go_wp2_with fail
    go_ret3
    exact RetIIC.nil HF.out B2.out
  cases c3 : colB go
  · have HF := hid (show fCoa xs gr go mo bud = ([], 0, 1) by unfold fCoa; rw [if_pos (.inr (.inr c3))])
    go_enter Try.func34, Try.ntmps34
    go_wp2_with fail
    refine (l13Ok_ok A c xs _ HA.out HK.out hn).mono ?_
    rintro e w1 ⟨rfl, hb1⟩
    have B1 := hid hb1
    clear hb1
    rw [c1]
    go_wp2_with fail
    refine (l13Colour_ok R cR gr _ (HR.out.below B1.out) (by omega)).mono ?_
    rintro e w2 ⟨rfl, hb2⟩
    have B2 := hid (below_trans B1.out hb2)
    clear hb2
    rw [c2]
    go_wp2_with fail
    refine (l13Colour_ok Gg cg go _ (HG.out.below B2.out) (by omega)).mono ?_
    rintro e w3 ⟨rfl, hb3⟩
    have B3 := hid (below_trans B2.out hb3)
    clear hb3
    rw [c3]
    go_wp2_with fail
    go_ret3
    exact RetIIC.nil HF.out B3.out
  have HV := hid (show ¬ (coatsB xs = false ∨ colB gr = false ∨ colB go = false) by rw [c1, c2, c3]; simp)
  cases c4 : inB mo 0 10
  · have HF := hid (show fCoa xs gr go mo bud = ([], 0, 2) by unfold fCoa; rw [if_neg HV.out, if_pos (.inl c4)])
    go_enter Try.func34, Try.ntmps34
    go_wp2_with fail
    refine (l13Ok_ok A c xs _ HA.out HK.out hn).mono ?_
    rintro e w1 ⟨rfl, hb1⟩
    have B1 := hid hb1
    clear hb1
    rw [c1]
    go_wp2_with fail
    refine (l13Colour_ok R cR gr _ (HR.out.below B1.out) (by omega)).mono ?_
    rintro e w2 ⟨rfl, hb2⟩
    have B2 := hid (below_trans B1.out hb2)
    clear hb2
    rw [c2]
    go_wp2_with fail
    refine (l13Colour_ok Gg cg go _ (HG.out.below B2.out) (by omega)).mono ?_
    rintro e w3 ⟨rfl, hb3⟩
    have B3 := hid (below_trans B2.out hb3)
    clear hb3
    rw [c3]
    go_wp2_with (go_at_call 69; refine (l00In_ok _ _ _ _).mono ?_; rintro e w' ⟨rfl, rfl⟩)
    go_ret3
    exact RetIIC.nil HF.out B3.out
  cases c5 : inB bud 1 20000
  · have HF := hid (show fCoa xs gr go mo bud = ([], 0, 2) by unfold fCoa; rw [if_neg HV.out, if_pos (.inr c5)])
    go_enter Try.func34, Try.ntmps34
    go_wp2_with fail
    refine (l13Ok_ok A c xs _ HA.out HK.out hn).mono ?_
    rintro e w1 ⟨rfl, hb1⟩
    have B1 := hid hb1
    clear hb1
    rw [c1]
    go_wp2_with fail
    refine (l13Colour_ok R cR gr _ (HR.out.below B1.out) (by omega)).mono ?_
    rintro e w2 ⟨rfl, hb2⟩
    have B2 := hid (below_trans B1.out hb2)
    clear hb2
    rw [c2]
    go_wp2_with fail
    refine (l13Colour_ok Gg cg go _ (HG.out.below B2.out) (by omega)).mono ?_
    rintro e w3 ⟨rfl, hb3⟩
    have B3 := hid (below_trans B2.out hb3)
    clear hb3
    rw [c3]
    go_wp2_with (go_at_call 69; refine (l00In_ok _ _ _ _).mono ?_; rintro e w' ⟨rfl, rfl⟩)
    go_ret3
    exact RetIIC.nil HF.out B3.out
  have HF := hid (show fCoa xs gr go mo bud = match srchC xs go mo.toNat [] gr ⟨bud.toNat, [], -1⟩ with | none => ([], 0, 5) | some S => (intsN S.best, S.most, 0) by unfold fCoa; rw [if_neg HV.out, if_neg (by rw [c4, c5]; simp)]; rfl)
  have hmo := inB_iff.1 c4
  have hbd := inB_iff.1 c5
  have HX := hid (coatsB_all c1)
  have hl10 := (coatsB_iff.1 c1).2
  have HCR := hid (colB_iff.1 c2)
  have HCG := hid (colB_iff.1 c3)
  have hmn : ((mo.toNat : Nat) : Int) = mo := by omega
  have hbn : ((bud.toNat : Nat) : Int) = bud := by omega
  have HMN := hid hmn
  have HBN := hid hbn
  clear hmn hbn
  go_enter Try.func34, Try.ntmps34
  go_wp2_with fail
  refine (l13Ok_ok A c xs _ HA.out HK.out hn).mono ?_
  rintro e w1 ⟨rfl, hb1⟩
  have B1 := hid hb1
  clear hb1
  rw [c1]
  go_wp2_with fail
  refine (l13Colour_ok R cR gr _ (HR.out.below B1.out) (by omega)).mono ?_
  rintro e w2 ⟨rfl, hb2⟩
  have B2 := hid (below_trans B1.out hb2)
  clear hb2
  rw [c2]
  go_wp2_with fail
  refine (l13Colour_ok Gg cg go _ (HG.out.below B2.out) (by omega)).mono ?_
  rintro e w3 ⟨rfl, hb3⟩
  have B3 := hid (below_trans B2.out hb3)
  clear hb3
  rw [c3]
  go_wp2_with (go_at_call 69; refine (l00In_ok _ _ _ _).mono ?_; rintro e w' ⟨rfl, rfl⟩)
  have BX := hid (below_alloc w3 (.cells #[.slice A xs.length c, .slice Gg go.length cg, .int .i64 mo, .slice none 0 0, .slice none 0 0, .int .i64 (-1), .int .i64 0, .int .i64 bud] 146))
  have HO := hid (World.ownsRow_lit (e := 146) (size := 8) w3 #[.slice A xs.length c, .slice Gg go.length cg, .int .i64 mo, .slice none 0 0, .slice none 0 0, .int .i64 (-1), .int .i64 0, .int .i64 bud] 1 (Nat.le_refl _) (by unfold maxLen; omega) rfl)
  have AX := hid (HA.out.below B3.out)
  have GX := hid (HG.out.below B3.out)
  have HST := hid (show RoaAt w3.heap.size (.slice A xs.length c) (.slice Gg go.length cg) ((mo.toNat : Nat) : Int) [] (⟨bud.toNat, [], -1⟩ : WS).best (⟨bud.toNat, [], -1⟩ : WS).most (bud - (((⟨bud.toNat, [], -1⟩ : WS).left : Nat) : Int)) bud (w3.alloc (.cells #[.slice A xs.length c, .slice Gg go.length cg, .int .i64 mo, .slice none 0 0, .slice none 0 0, .int .i64 (-1), .int .i64 0, .int .i64 bud] 146)) by
    show RoaAt w3.heap.size _ _ ((mo.toNat : Nat) : Int) [] [] (-1) (bud - ((bud.toNat : Nat) : Int)) bud _
    rw [HMN.out, HBN.out, Int.sub_self]
    exact ⟨none, 0, none, 0, HO.out, World.ownsRow_nil _ _ _ _, World.ownsRow_nil _ _ _ _, .inl rfl⟩)
  have RX := hid ((HR.out.below B3.out).below BX.out)
  refine (l00Own_ok R cR gr _ RX.out (by omega) (fun h => by
    obtain ⟨gb, gof, hR, -, -⟩ := HR.out (by intro e; have := HCR.out.2; rw [e] at this; cases this)
    rw [hR] at h
    cases h)).mono ?_
  rintro e w5 ⟨A5, c5', rfl, ho5, -, hb5⟩
  have S5 := hid (HST.out.below hb5)
  have B5 := hid (BX.out.trans (hb5.mono (by simp)))
  have C5 := hid (ColAt.new (b := w3.heap.size) (s := 3) ho5 HCR.out.2 HST.out.lt hb5 (fun g hg => by
    rw [blkAt_of (HO.out.cellAt 3 (by omega))] at hg
    cases hg))
  clear ho5 hb5
  go_wp2_with fail
  refine (roaSearch xs go A c Gg cg w3.heap.size mo.toNat w3 AX.out HX.out hl10 GX.out HCG.out rfl (by omega) bud (by omega) mo.toNat [] gr A5 c5' ⟨bud.toNat, [], -1⟩ _ (by simp) HCR.out C5.out (by show ((bud.toNat : Nat) : Int) ≤ bud; have := HBN.out; omega) B5.out S5.out).mono ?_
  rintro e w4 ⟨hb4, hr⟩
  have B4 := hid (B3.out.trans (hb4.mono B3.out.size))
  have L4 := hid B3.out.size
  clear hb4
  cases hq : srchC xs go mo.toNat [] gr ⟨bud.toNat, [], -1⟩ with
  | none =>
    rw [hq] at hr
    obtain rfl := hr
    have HF2 := hid (HF.out.trans (by rw [hq]))
    clear hq
    go_wp2_with fail
    go_ret3
    exact RetIIC.nil HF2.out B4.out
  | some S =>
    rw [hq] at hr
    obtain ⟨⟨rfl, -⟩, -, At, ct, Ab, cb, ho, -, hs, -⟩ := hr
    have HF2 := hid (HF.out.trans (by rw [hq]))
    have HS := hid hs
    have HO4 := hid ho
    have d4 := ho.cellAt 4 (by omega)
    have d5 := ho.cellAt 5 (by omega)
    simp only [List.getElem?_cons_zero, List.getElem?_cons_succ] at d4 d5
    have hsz : w3.heap.size < w4.heap.size := (ho.lt _ rfl).2
    have hbl : S.best.length ≤ 1048576 := Nat.le_trans (srchC_len mo.toNat [] gr _ S (by simp; omega) (by simp) hq) (by omega)
    clear hq ho hs
    go_wp2_with fail
    refine wp_region_held_drew (S := (fun w' => w'.cell? ⟨w3.heap.size, 4, none⟩ = some (.slice Ab S.best.length cb) ∧ w'.cell? ⟨w3.heap.size, 5, none⟩ = some (.int .i64 S.most))) (by kernel_rfl) ⟨d4, d5⟩ (fun hHeld => ?_)
    refine wpAnyH_take (i := 0) (oi := ⟨some 45, _, _, _, _, _⟩) (v := ?_) rfl (by kernel_rfl) (by kernel_rfl) (by kernel_rfl) (fun _ _ _ h => h) (Or.inl ⟨by rfl, ?_⟩) (by assumption) ?_
    rotate_left
    · (intro w hSw; (try dsimp only at hSw); go_simp; try with_reducible rfl)
    try simp only [Act.put, List.setIfInBounds_toArray, List.set_cons_zero, List.set_cons_succ]
    refine wpAnyH_take (i := 1) (oi := ⟨some 46, _, _, _, _, _⟩) (v := ?_) rfl (by kernel_rfl) (by kernel_rfl) (by kernel_rfl) (fun _ _ _ h => h) (Or.inl ⟨by rfl, ?_⟩) (by assumption) ?_
    rotate_left
    · (intro w hSw; (try dsimp only at hSw); go_simp; try with_reducible rfl)
    try simp only [Act.put, List.setIfInBounds_toArray, List.set_cons_zero, List.set_cons_succ]
    refine wpAnyH_take (i := 2) (oi := ⟨some 47, _, _, _, _, _⟩) (v := ?_) rfl (by kernel_rfl) (by kernel_rfl) (by kernel_rfl) (fun _ _ _ h => h) (Or.inl ⟨by rfl, ?_⟩) (by assumption) ?_
    rotate_left
    · (intro w hSw; (try dsimp only at hSw); go_simp; try with_reducible rfl)
    try simp only [Act.put, List.setIfInBounds_toArray, List.set_cons_zero, List.set_cons_succ]
    refine wpAnyH_take (i := 3) (oi := ⟨some 48, _, _, _, _, _⟩) (v := ?_) rfl (by kernel_rfl) (by kernel_rfl) (by kernel_rfl) (fun _ _ _ h => h) (Or.inl ⟨by rfl, ?_⟩) (by assumption) ?_
    rotate_left
    · (intro w hSw; (try dsimp only at hSw); go_simp; try with_reducible rfl)
    try simp only [Act.put, List.setIfInBounds_toArray, List.set_cons_zero, List.set_cons_succ]
    refine wpAnyH_take (i := 5) (oi := ⟨some 50, _, _, _, _, _⟩) (v := ?_) rfl (by kernel_rfl) (by kernel_rfl) (by kernel_rfl) (fun _ _ _ h => h) (Or.inl ⟨by rfl, ?_⟩) (by assumption) ?_
    rotate_left
    · (intro w hSw; (try dsimp only at hSw); go_simp; try with_reducible rfl)
    try simp only [Act.put, List.setIfInBounds_toArray, List.set_cons_zero, List.set_cons_succ]
    refine wpAnyH_take (i := 6) (oi := ⟨some 51, _, _, _, _, _⟩) (v := ?_) rfl (by kernel_rfl) (by kernel_rfl) (by kernel_rfl) (fun _ _ _ h => h) (Or.inl ⟨by rfl, ?_⟩) (by assumption) ?_
    rotate_left
    · (intro w hSw; (try dsimp only at hSw); go_simp; try with_reducible rfl)
    try simp only [Act.put, List.setIfInBounds_toArray, List.set_cons_zero, List.set_cons_succ]
    refine wpAnyH_take (i := 7) (oi := ⟨some 52, _, _, _, _, _⟩) (v := ?_) rfl (by kernel_rfl) (by kernel_rfl) (by kernel_rfl) (fun _ _ _ h => h) (Or.inl ⟨by rfl, ?_⟩) (by assumption) ?_
    rotate_left
    · (intro w hSw; (try dsimp only at hSw); go_simp; try with_reducible rfl)
    try simp only [Act.put, List.setIfInBounds_toArray, List.set_cons_zero, List.set_cons_succ]
    refine wpAnyH_take (i := 8) (oi := ⟨some 53, _, _, _, _, _⟩) (v := ?_) rfl (by kernel_rfl) (by kernel_rfl) (by kernel_rfl) (fun _ _ _ h => h) (Or.inl ⟨by rfl, ?_⟩) (by assumption) ?_
    rotate_left
    · (intro w hSw; (try dsimp only at hSw); go_simp; try with_reducible rfl)
    try simp only [Act.put, List.setIfInBounds_toArray, List.set_cons_zero, List.set_cons_succ]
    refine wpAnyH_ready (rs := [4]) (by kernel_rfl) (by simp) ?_
    refine AllReadyH.cons (o := ⟨some 49, _, _, _, _, _⟩) rfl (fun K hK => ?_) AllReadyH.nil
    go_simp
    go_at_call 98; refine (ownT_ok Ab cb S.best _ (B := w3.heap.size + 1) (show w4.drew.ownsRow _ _ _ _ _ _ from HS.out) hbl).mono ?_; rintro e w6 ⟨A6, c6, rfl, ho6, hb6⟩
    (try go_wp2_with fail)
    refine hK.out _ _ (⟨(hb6.cell (p := ⟨w3.heap.size, 4, none⟩) hsz).trans d4, (hb6.cell (p := ⟨w3.heap.size, 5, none⟩) hsz).trans d5⟩) (fun hHeld => ?_)
    clear hK K
    try simp only [Act.put, List.setIfInBounds_toArray, List.set_cons_zero, List.set_cons_succ]
    refine wpAnyH_take (i := 9) (oi := ⟨some 10, _, _, _, _, _⟩) (v := ?_) rfl (by kernel_rfl) (by kernel_rfl) (by kernel_rfl) (fun _ _ _ h => h) (Or.inl ⟨by rfl, ?_⟩) (by assumption) ?_
    rotate_left
    · (intro w hSw; (try dsimp only at hSw); go_simp; try with_reducible rfl)
    try simp only [Act.put, List.setIfInBounds_toArray, List.set_cons_zero, List.set_cons_succ]
    refine wpAnyH_take (i := 10) (oi := ⟨some 11, _, _, _, _, _⟩) (v := ?_) rfl (by kernel_rfl) (by kernel_rfl) (by kernel_rfl) (fun _ _ _ h => h) (Or.inl ⟨by rfl, ?_⟩) (by assumption) ?_
    rotate_left
    · (intro w hSw; (try dsimp only at hSw); go_simp; try with_reducible rfl)
    try simp only [Act.put, List.setIfInBounds_toArray, List.set_cons_zero, List.set_cons_succ]
    refine wpAnyH_take (i := 11) (oi := ⟨some 12, _, _, _, _, _⟩) (v := ?_) rfl (by kernel_rfl) (by kernel_rfl) (by kernel_rfl) (fun _ _ _ h => h) (Or.inl ⟨by rfl, ?_⟩) (by assumption) ?_
    rotate_left
    · (intro w hSw; (try dsimp only at hSw); go_simp; try with_reducible rfl)
    try simp only [Act.put, List.setIfInBounds_toArray, List.set_cons_zero, List.set_cons_succ]
    refine wpAnyH_done (by kernel_rfl) ?_ _
    go_wp2_with fail
    go_ret3
    exact RetIIC.own HF2.out (intsN_length _).symm (own_mono (w := w6) ho6 (by have := L4.out; have := B4.out.size; show w.heap.size ≤ w4.heap.size; omega)) (below_trans B4.out (below_drew1.trans hb6))
theorem fCoa_small (xs : List DCoat) (gr go : List Int) (mo bud : Int) : (fCoa xs gr go mo bud).1.length ≤ 10 := by
  unfold fCoa
  split
  · simp
  · split
    · simp
    · rename_i h1 h2
      split
      · simp
      · rename_i S hq
        rw [intsN_length]
        have h3 := inB_iff.1 (show inB mo 0 10 = true by cases h : inB mo 0 10; exact absurd (.inl h) h2; rfl)
        exact srchC_len mo.toNat [] gr _ S (by simp; omega) (by simp) hq
end Go.Proofs.Ytdbjbkdcmhekfaa
