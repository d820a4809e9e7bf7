/- GlueJoints and its reference. -/
import Derived.Test.YtdbjbkdcmhekfaaGluI
import Derived.Test.YtdbjbkdcmhekfaaGluS
import Derived.Test.YtdbjbkdcmhekfaaRetIIC
import Derived.Test.YtdbjbkdcmhekfaaRange
namespace Go.Proofs.Ytdbjbkdcmhekfaa
open Go.RowKit
set_option linter.unusedVariables false

theorem srchG_len {xs : List DPot} {ns : List Int} : ∀ (m : Nat) (rest : List Int) (t : List Nat) (s : Int) (S S' : WS), t.length + m ≤ 10 → S.best.length ≤ 10 → srchG xs ns m rest t s S = some S' → S'.best.length ≤ 10
  | 0, rest, t, s, S, S', h, h2, e => by
    rw [srchG] at e
    injection e with e
    subst e
    unfold leafG
    split
    · show t.length ≤ 10; omega
    · exact h2
  | m + 1, rest, t, s, S, S', h, h2, e => by
    rw [srchG] at e
    refine loopO_keep (q := fun S => S.best.length ≤ 10) (fun k S1 S2 h3 h4 => ?_) xs.length 0 _ S' h2 e
    split at h4
    · injection h4 with h4; rw [← h4]; exact h3
    · split at h4
      · cases h4
      · exact srchG_len m _ (t ++ [k]) _ ⟨S1.left - 1, S1.best, S1.most⟩ S2 (by rw [List.length_append, List.length_singleton]; omega) (show S1.best.length ≤ 10 from h3) h4

set_option maxHeartbeats 3200000 in
set_option maxRecDepth 100000 in
theorem implGlu_ok (A : Option Addr) (c : Nat) (xs : List DPot) (N : Option Addr) (cN : Nat) (ns : List Int) (bud : Int) (w : World) (hA : RowsAt w 5 A (xs.map DPot.cells)) (hok : ∀ x ∈ xs, x.ok) (hn : xs.length ≤ 1048576) (hN : IntsAt w N ns) (hnn : ns.length ≤ 1048576) :
    Calls Try.prog 43 #[.slice A xs.length c, .slice N ns.length cN, .int .i64 bud] w (RetIIC w (fGlu xs ns bud)) := by
  have HA := hid hA
  have HK := hid hok
  have HN := hid hN
  clear hA hok hN
  cases c1 : potsB xs
  · have HF := hid (show fGlu xs ns bud = ([], 0, 1) by unfold fGlu; rw [if_pos c1])
    go_enter Try.func43, Try.ntmps43
    go_wp2_with fail
    refine (ValidPots_ok A c xs _ HA.out HK.out hn).mono ?_
    rintro e w1 ⟨rfl, hb1⟩
    have B1 := hid hb1
    clear hb1
    rw [c1]
    go_wp2_with fail
    go_ret3
    exact RetIIC.nil HF.out B1.out
  cases c2 : needB ns
  · have HF := hid (show fGlu xs ns bud = ([], 0, 2) by unfold fGlu; rw [if_neg (by rw [c1]; simp), if_pos (.inl c2)])
    go_enter Try.func43, Try.ntmps43
    go_wp2_with fail
    refine (ValidPots_ok A c xs _ HA.out HK.out hn).mono ?_
    rintro e w1 ⟨rfl, hb1⟩
    have B1 := hid hb1
    clear hb1
    rw [c1]
    go_wp2_with fail
    refine (areNeeds_ok N cN ns _ (HN.out.below B1.out) (by omega)).mono ?_
    rintro e w2 ⟨rfl, rfl⟩
    rw [c2]
    go_wp2_with fail
    go_ret3
    exact RetIIC.nil HF.out B1.out
  cases c3 : inB bud 1 20000
  · have HF := hid (show fGlu xs ns bud = ([], 0, 2) by unfold fGlu; rw [if_neg (by rw [c1]; simp), if_pos (.inr c3)])
    go_enter Try.func43, Try.ntmps43
    go_wp2_with fail
    refine (ValidPots_ok A c xs _ HA.out HK.out hn).mono ?_
    rintro e w1 ⟨rfl, hb1⟩
    have B1 := hid hb1
    clear hb1
    rw [c1]
    go_wp2_with fail
    refine (areNeeds_ok N cN ns _ (HN.out.below B1.out) (by omega)).mono ?_
    rintro e w2 ⟨rfl, rfl⟩
    rw [c2]
    go_wp2_with fail
    refine (within_ok _ _ _ _).mono ?_
    rintro e w' ⟨rfl, rfl⟩
    rw [c3]
    go_wp2_with fail
    go_ret3
    exact RetIIC.nil HF.out B1.out
  have HF := hid (show fGlu xs ns bud = match srchG xs ns ns.length (fullL xs) [] 0 ⟨bud.toNat, [], -1⟩ with | none => ([], 0, 5) | some S => if S.most < 0 then ([], 0, 3) else (intsN S.best, S.most, 0) by unfold fGlu; rw [if_neg (by rw [c1]; simp), if_neg (by rw [c2, c3]; simp)]; rfl)
  have hbd := inB_iff.1 c3
  obtain ⟨hl8, hX⟩ := potsB_bd c1
  obtain ⟨hnb, hn10⟩ := needB_iff.1 c2
  have HX := hid hX
  have HNB := hid hnb
  have HBN := hid (show ((bud.toNat : Nat) : Int) = bud by omega)
  clear hX hnb
  go_enter Try.func43, Try.ntmps43
  go_wp2_with fail
  refine (ValidPots_ok A c xs _ HA.out HK.out hn).mono ?_
  rintro e w1 ⟨rfl, hb1⟩
  have B1 := hid hb1
  clear hb1
  rw [c1]
  go_wp2_with fail
  refine (areNeeds_ok N cN ns _ (HN.out.below B1.out) (by omega)).mono ?_
  rintro e w2 ⟨rfl, rfl⟩
  rw [c2]
  go_wp2_with fail
  refine (within_ok _ _ _ _).mono ?_
  rintro e w' ⟨rfl, rfl⟩
  rw [c3]
  go_wp2_with fail
  refine (contents_ok A c xs _ (HA.out.below B1.out) hl8 HX.out).mono ?_
  rintro e w2 ⟨r, cr, rfl, ho2, hb2⟩
  have hrlo := (ho2.lt r rfl).1
  have hrhi := (ho2.lt r rfl).2
  have hcr := (own_capP ho2).1
  have BX := hid (below_alloc w2 (.cells #[.slice A xs.length c, .slice N ns.length cN, .slice (some ⟨r, 0, none⟩) xs.length cr, .int .i64 bud, .slice none 0 0, .int .i64 0, .slice none 0 0, .int .i64 0, .bool false] 166))
  have HO := hid (World.ownsRow_lit (e := 166) (size := 9) w2 #[.slice A xs.length c, .slice N ns.length cN, .slice (some ⟨r, 0, none⟩) xs.length cr, .int .i64 bud, .slice none 0 0, .int .i64 0, .slice none 0 0, .int .i64 0, .bool false] 1 (Nat.le_refl _) (by unfold maxLen; omega) rfl)
  have B3 := hid (hb2.trans ((below_alloc w2 (.cells #[.slice A xs.length c, .slice N ns.length cN, .slice (some ⟨r, 0, none⟩) xs.length cr, .int .i64 bud, .slice none 0 0, .int .i64 0, .slice none 0 0, .int .i64 0, .bool false] 166)).mono hb2.size))
  have R3 := hid (show RestAt r cr (fullL xs) (w2.alloc (.cells #[.slice A xs.length c, .slice N ns.length cN, .slice (some ⟨r, 0, none⟩) xs.length cr, .int .i64 bud, .slice none 0 0, .int .i64 0, .slice none 0 0, .int .i64 0, .bool false] 166)) by
    unfold RestAt
    rw [fullL_length]
    exact (own_base ho2).alloc _)
  clear ho2 hb2
  go_wp2_with fail
  have S3 := hid (show GluS w2.heap.size (.slice A xs.length c) (.slice N ns.length cN) (.slice (some ⟨r, 0, none⟩) xs.length cr) ((bud.toNat : Nat) : Int) [] 0 [] (mostF (-1)) (decide ((0 : Int) ≤ -1)) (w2.alloc (.cells #[.slice A xs.length c, .slice N ns.length cN, .slice (some ⟨r, 0, none⟩) xs.length cr, .int .i64 bud, .slice none 0 0, .int .i64 0, .slice none 0 0, .int .i64 0, .bool false] 166)) by
    rw [HBN.out]
    exact ⟨none, 0, none, 0, HO.out, World.ownsRow_nil _ _ _ _, World.ownsRow_nil _ _ _ _, .inl rfl⟩)
  refine (gluSearch xs ns A c N cN w2.heap.size r cr w1 (HA.out.below B1.out) (HN.out.below B1.out) HX.out hl8 HNB.out hn10 hrlo hrhi hcr ns.length (fullL xs) [] 0 ⟨bud.toNat, [], -1⟩ _ (by simp) (fullL_length xs) (RestOk.full HX.out) ⟨Int.le_refl _, by simp⟩ (by show bud.toNat ≤ 20000; omega) B3.out S3.out R3.out).mono ?_
  rintro e w4 ⟨⟨hb4, -⟩, -, hr⟩
  have B4 := hid (below_up B1.out B1.out.size hb4)
  have hbl4 := hb4.size
  clear hb4
  cases hq : srchG xs ns ns.length (fullL xs) [] 0 ⟨bud.toNat, [], -1⟩ with
  | none =>
    rw [hq] at hr
    obtain ⟨rfl, -⟩ := hr
    have HR := hid (show fGlu xs ns bud = ([], 0, 5) by rw [HF.out, hq])
    clear hq
    go_wp2_with fail
    go_ret3
    exact RetIIC.nil HR.out B4.out
  | some S =>
    rw [hq] at hr
    obtain ⟨rfl, -, hst⟩ := hr
    obtain ⟨At, ct, Ab, cb, ho, -, hbs, -⟩ := hst
    have HBS := hid hbs
    have HO4 := hid ho
    clear ho hbs
    have c6 := HO4.out.cellAt 6 (by omega)
    have c7 := HO4.out.cellAt 7 (by omega)
    have c8 := HO4.out.cellAt 8 (by omega)
    have f6 := HO4.out.frozenAt 6
    have f7 := HO4.out.frozenAt 7
    have f8 := HO4.out.frozenAt 8
    simp only [List.getElem?_cons_zero, List.getElem?_cons_succ] at c6 c7 c8
    by_cases hm : S.most < 0
    · have HR := hid (show fGlu xs ns bud = ([], 0, 3) by rw [HF.out, hq]; show (if S.most < 0 then (([], 0, 3) : List Int × Int × Int) else _) = _; rw [if_pos hm])
      have e8 : decide (0 ≤ S.most) = false := decide_eq_false (by omega)
      rw [e8] at c8
      clear hq e8
      go_wp2_with fail
      go_ret3
      exact RetIIC.nil HR.out B4.out
    · have HR := hid (show fGlu xs ns bud = (intsN S.best, S.most, 0) by rw [HF.out, hq]; show (if S.most < 0 then (([], 0, 3) : List Int × Int × Int) else _) = _; rw [if_neg hm])
      have e8 : decide (0 ≤ S.most) = true := decide_eq_true (by omega)
      rw [e8] at c8
      rw [mostF_of (show 0 ≤ S.most by omega)] at c7
      clear hq e8
      go_wp2_with fail
      go_quiet (fail)
      go_wp2_with fail
      go_ret3
      exact RetIIC.own HR.out (intsN_length _).symm (own_mono (w := w4) HBS.out (by have := B1.out.size; omega)) (below_drewN' B4.out _)

set_option maxHeartbeats 3200000 in
set_option maxRecDepth 100000 in
theorem specGlu_ok (A : Option Addr) (c : Nat) (xs : List DPot) (N : Option Addr) (cN : Nat) (ns : List Int) (bud : Int) (w : World) (hA : RowsAt w 5 A (xs.map DPot.cells)) (hok : ∀ x ∈ xs, x.ok) (hn : xs.length ≤ 1048576) (hN : IntsAt w N ns) (hnn : ns.length ≤ 1048576) :
    Calls Try.prog 41 #[.slice A xs.length c, .slice N ns.length cN, .int .i64 bud] w (RetIIC w (fGlu xs ns bud)) := by
  have HA := hid hA
  have HK := hid hok
  have HN := hid hN
  clear hA hok hN
  cases c1 : potsB xs
  · have HF := hid (show fGlu xs ns bud = ([], 0, 1) by unfold fGlu; rw [if_pos c1])
    go_enter Try.func41, Try.ntmps41
    go_wp2_with fail
    refine (l14Ok_ok A c xs _ HA.out HK.out hn).mono ?_
    rintro e w1 ⟨rfl, hb1⟩
    have B1 := hid hb1
    clear hb1
    rw [c1]
    go_wp2_with fail
    go_ret3
    exact RetIIC.nil HF.out B1.out
  cases c2 : needB ns
  · have HF := hid (show fGlu xs ns bud = ([], 0, 2) by unfold fGlu; rw [if_neg (by rw [c1]; simp), if_pos (.inl c2)])
    go_enter Try.func41, Try.ntmps41
    go_wp2_with fail
    refine (l14Ok_ok A c xs _ HA.out HK.out hn).mono ?_
    rintro e w1 ⟨rfl, hb1⟩
    have B1 := hid hb1
    clear hb1
    rw [c1]
    go_wp2_with fail
    refine (l14Needs_ok N cN ns _ (HN.out.below B1.out) (by omega)).mono ?_
    rintro e w2 ⟨rfl, rfl⟩
    rw [c2]
    go_wp2_with fail
    go_ret3
    exact RetIIC.nil HF.out B1.out
  cases c3 : inB bud 1 20000
  · have HF := hid (show fGlu xs ns bud = ([], 0, 2) by unfold fGlu; rw [if_neg (by rw [c1]; simp), if_pos (.inr c3)])
    go_enter Try.func41, Try.ntmps41
    go_wp2_with fail
    refine (l14Ok_ok A c xs _ HA.out HK.out hn).mono ?_
    rintro e w1 ⟨rfl, hb1⟩
    have B1 := hid hb1
    clear hb1
    rw [c1]
    go_wp2_with fail
    refine (l14Needs_ok N cN ns _ (HN.out.below B1.out) (by omega)).mono ?_
    rintro e w2 ⟨rfl, rfl⟩
    rw [c2]
    go_wp2_with fail
    refine (l00In_ok _ _ _ _).mono ?_
    rintro e w' ⟨rfl, rfl⟩
    rw [c3]
    go_wp2_with fail
    go_ret3
    exact RetIIC.nil HF.out B1.out
  have HF := hid (show fGlu xs ns bud = match srchG xs ns ns.length (fullL xs) [] 0 ⟨bud.toNat, [], -1⟩ with | none => ([], 0, 5) | some S => if S.most < 0 then ([], 0, 3) else (intsN S.best, S.most, 0) by unfold fGlu; rw [if_neg (by rw [c1]; simp), if_neg (by rw [c2, c3]; simp)]; rfl)
  have hbd := inB_iff.1 c3
  obtain ⟨hl8, hX⟩ := potsB_bd c1
  obtain ⟨hnb, hn10⟩ := needB_iff.1 c2
  have HX := hid hX
  have HNB := hid hnb
  have HBN := hid (show ((bud.toNat : Nat) : Int) = bud by omega)
  clear hX hnb
  go_enter Try.func41, Try.ntmps41
  go_wp2_with fail
  refine (l14Ok_ok A c xs _ HA.out HK.out hn).mono ?_
  rintro e w1 ⟨rfl, hb1⟩
  have B1 := hid hb1
  clear hb1
  rw [c1]
  go_wp2_with fail
  refine (l14Needs_ok N cN ns _ (HN.out.below B1.out) (by omega)).mono ?_
  rintro e w2 ⟨rfl, rfl⟩
  rw [c2]
  go_wp2_with fail
  refine (l00In_ok _ _ _ _).mono ?_
  rintro e w' ⟨rfl, rfl⟩
  rw [c3]
  go_wp2_with fail
  refine (l14Full_ok A c xs _ (HA.out.below B1.out) hl8 HX.out).mono ?_
  rintro e w2 ⟨r, cr, rfl, ho2, hb2⟩
  have hrlo := (ho2.lt r rfl).1
  have hrhi := (ho2.lt r rfl).2
  have hcr := (own_capP ho2).1
  have BX := hid (below_alloc w2 (.cells #[.slice A xs.length c, .slice N ns.length cN, .slice (some ⟨r, 0, none⟩) xs.length cr, .slice none 0 0, .slice none 0 0, .int .i64 (-1), .int .i64 0, .int .i64 bud, .bool false] 160))
  have HO := hid (World.ownsRow_lit (e := 160) (size := 9) w2 #[.slice A xs.length c, .slice N ns.length cN, .slice (some ⟨r, 0, none⟩) xs.length cr, .slice none 0 0, .slice none 0 0, .int .i64 (-1), .int .i64 0, .int .i64 bud, .bool false] 1 (Nat.le_refl _) (by unfold maxLen; omega) rfl)
  have B3 := hid (hb2.trans ((below_alloc w2 (.cells #[.slice A xs.length c, .slice N ns.length cN, .slice (some ⟨r, 0, none⟩) xs.length cr, .slice none 0 0, .slice none 0 0, .int .i64 (-1), .int .i64 0, .int .i64 bud, .bool false] 160)).mono hb2.size))
  have R3 := hid (show RestAt r cr (fullL xs) (w2.alloc (.cells #[.slice A xs.length c, .slice N ns.length cN, .slice (some ⟨r, 0, none⟩) xs.length cr, .slice none 0 0, .slice none 0 0, .int .i64 (-1), .int .i64 0, .int .i64 bud, .bool false] 160)) by
    unfold RestAt
    rw [fullL_length]
    exact (own_base ho2).alloc _)
  clear ho2 hb2
  go_wp2_with fail
  have S3 := hid (show GlrS w2.heap.size (.slice A xs.length c) (.slice N ns.length cN) (.slice (some ⟨r, 0, none⟩) xs.length cr) [] [] (-1) (bud - ((bud.toNat : Nat) : Int)) bud false (w2.alloc (.cells #[.slice A xs.length c, .slice N ns.length cN, .slice (some ⟨r, 0, none⟩) xs.length cr, .slice none 0 0, .slice none 0 0, .int .i64 (-1), .int .i64 0, .int .i64 bud, .bool false] 160)) by
    rw [HBN.out, Int.sub_self]
    exact ⟨none, 0, none, 0, HO.out, World.ownsRow_nil _ _ _ _, World.ownsRow_nil _ _ _ _, .inl rfl⟩)
  refine (glrSearch xs ns A c N cN w2.heap.size r cr w1 (HA.out.below B1.out) (HN.out.below B1.out) HX.out hl8 HNB.out hn10 hrlo hrhi hcr bud (by omega) ns.length (fullL xs) [] 0 ⟨bud.toNat, [], -1⟩ _ (by simp) (fullL_length xs) (RestOk.full HX.out) ⟨Int.le_refl _, by simp⟩ (by show ((bud.toNat : Nat) : Int) ≤ bud; omega) B3.out S3.out R3.out).mono ?_
  rintro e w4 ⟨⟨hb4, rfl⟩, -, hr⟩
  have B4 := hid (below_up B1.out B1.out.size hb4)
  have hbl4 := hb4.size
  clear hb4
  cases hq : srchG xs ns ns.length (fullL xs) [] 0 ⟨bud.toNat, [], -1⟩ with
  | none =>
    rw [hq] at hr
    obtain ⟨best, most, nodes, At, ct, Ab, cb, ho, -, hbs, -⟩ := hr
    have HR := hid (show fGlu xs ns bud = ([], 0, 5) by rw [HF.out, hq])
    have HO4 := hid ho
    clear hq ho hbs
    have c8 := HO4.out.cellAt 8 (by omega)
    have f8 := HO4.out.frozenAt 8
    simp only [List.getElem?_cons_zero, List.getElem?_cons_succ] at c8
    go_wp2_with fail
    go_ret3
    exact RetIIC.nil HR.out B4.out
  | some S =>
    rw [hq] at hr
    obtain ⟨-, At, ct, Ab, cb, ho, -, hbs, -⟩ := hr
    have HBS := hid hbs
    have HO4 := hid ho
    clear ho hbs
    have c4 := HO4.out.cellAt 4 (by omega)
    have c5 := HO4.out.cellAt 5 (by omega)
    have c8 := HO4.out.cellAt 8 (by omega)
    have f4 := HO4.out.frozenAt 4
    have f5 := HO4.out.frozenAt 5
    have f8 := HO4.out.frozenAt 8
    simp only [List.getElem?_cons_zero, List.getElem?_cons_succ] at c4 c5 c8
    by_cases hm : S.most < 0
    · have HR := hid (show fGlu xs ns bud = ([], 0, 3) by rw [HF.out, hq]; show (if S.most < 0 then (([], 0, 3) : List Int × Int × Int) else _) = _; rw [if_pos hm])
      clear hq
      go_wp2_with fail
      go_ret3
      exact RetIIC.nil HR.out B4.out
    · have HR := hid (show fGlu xs ns bud = (intsN S.best, S.most, 0) by rw [HF.out, hq]; show (if S.most < 0 then (([], 0, 3) : List Int × Int × Int) else _) = _; rw [if_neg hm])
      clear hq
      go_wp2_with fail
      go_quiet (fail)
      go_wp2_with fail
      go_ret3
      exact RetIIC.own HR.out (intsN_length _).symm (own_mono (w := w4) HBS.out (by have := B1.out.size; omega)) (below_drewN' B4.out _)
theorem fGlu_small (xs : List DPot) (ns : List Int) (bud : Int) : (fGlu xs ns bud).1.length ≤ 10 := by
  unfold fGlu
  split
  · simp
  · split
    · simp
    · rename_i h1 h2
      split
      · simp
      · rename_i S hq
        split
        · simp
        · rw [intsN_length]
          have h3 := (needB_iff.1 (show needB ns = true by cases h : needB ns; exact absurd (.inl h) h2; rfl)).2
          exact srchG_len ns.length (fullL xs) [] 0 _ S (by simp; omega) (by simp) hq
end Go.Proofs.Ytdbjbkdcmhekfaa
