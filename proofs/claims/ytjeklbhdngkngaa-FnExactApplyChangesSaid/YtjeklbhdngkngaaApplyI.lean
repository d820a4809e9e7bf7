/- ApplyChanges: the program. -/
import Derived.Test.YtjeklbhdngkngaaApply
import Derived.Test.YtjeklbhdngkngaaMergeI
namespace Go.Proofs.Ytjeklbhdngkngaa
open Go.RowKit
set_option linter.unusedVariables false

set_option maxHeartbeats 3200000 in
set_option maxRecDepth 100000 in
theorem implApplyChanges_ok (g0 : Nat) (xs : List DSetting) (g1 : Nat) (cs : List DChange) (w : World) (hA : RowsAt w 2 (some ⟨g0, 0, none⟩) (xs.map DSetting.cells)) (hok : ∀ x ∈ xs, x.ok) (hn : xs.length ≤ 1048576) (hA2 : RowsAt w 3 (some ⟨g1, 0, none⟩) (cs.map DChange.cells)) (hok2 : ∀ x ∈ cs, x.ok) (hn2 : cs.length ≤ 1048576) :
    Calls Try.prog 20 #[.slice (some ⟨g0, 0, none⟩) xs.length xs.length, .slice (some ⟨g1, 0, none⟩) cs.length cs.length] w (RetSettingC w (fApply xs cs)) := by
  have HA := hid hA
  have HK := hid hok
  have HA2 := hid hA2
  have HK2 := hid hok2
  clear hA hok hA2 hok2
  cases c1 : stateB xs
  · have HF := hid (show fApply xs cs = ([], 1) by unfold fApply; rw [if_pos c1])
    go_enter Try.func20, Try.ntmps20
    go_wp2_with fail
    refine (ValidState_ok _ _ xs _ HA.out HK.out hn).mono ?_
    rintro e w1 ⟨rfl, hb⟩
    rw [c1]
    go_wp2_with fail
    go_ret2
    exact RetSettingC.nil HF.out hb
  have hst := stateB_iff.1 c1
  have HST := hid hst
  have hx24 : xs.length ≤ 24 := hst.2
  clear hst
  go_enter Try.func20, Try.ntmps20
  go_wp2_with fail
  refine (ValidState_ok _ _ xs _ HA.out HK.out hn).mono ?_
  rintro e w1 ⟨rfl, hb⟩
  rw [c1]
  have HB1 := hid hb
  clear hb
  go_wp2_with fail
  go_loopw [18] (fun i wr => ∃ k : Nat, k ≤ cs.length ∧ i = .int .i64 (k : Int) ∧ ChgTo cs k ∧ Below w.heap.size w wr) (fun i _ => cs.length - (intOf i).toNat)
  case atStart => exact ⟨0, Nat.zero_le _, rfl, fun _ _ h => absurd h (Nat.not_lt_zero _), HB1.out⟩
  case round =>
    clear HB1
    obtain ⟨k, hk, rfl, hch, hbel⟩ := hrel
    have HC := hid hch
    have HB := hid hbel
    clear hch hbel
    by_cases hkl : k < cs.length
    · have BX := hid (HB.out.alloc HB.out.size (.cells #[.int .i64 cs[k].fKind, .string cs[k].fName, .int .i64 cs[k].fValue] 109))
      have hne : cs.map DChange.cells ≠ [] := by intro e; rw [List.map_eq_nil_iff] at e; rw [e] at hkl; exact absurd hkl (by simp)
      obtain ⟨b, o, hAb, hlt, hcc⟩ := (HA2.out.below HB.out) hne
      injection hAb with hAb
      injection hAb with hb1 hb2
      subst hb1
      obtain rfl : 0 = o := hb2
      have HCC := hid hcc
      have cc0 : wr.cell? ⟨g1, 0 + k * 3, none⟩ = some (.int .i64 cs[k].fKind) := HCC.out k _ (by rw [List.getElem?_map, List.getElem?_eq_getElem hkl]; rfl) 0 _ rfl
      have cc1 : wr.cell? ⟨g1, 0 + k * 3 + 1, none⟩ = some (.string cs[k].fName) := HCC.out k _ (by rw [List.getElem?_map, List.getElem?_eq_getElem hkl]; rfl) 1 _ rfl
      have cc2 : wr.cell? ⟨g1, 0 + k * 3 + 2, none⟩ = some (.int .i64 cs[k].fValue) := HCC.out k _ (by rw [List.getElem?_map, List.getElem?_eq_getElem hkl]; rfl) 2 _ rfl
      simp only [Nat.zero_add] at cc0 cc1 cc2
      have q0 : (0 : Int) ≤ (k : Int) := by omega
      have q1 : (k : Int) < cs.length := by omega
      have hcx := HK2.out cs[k] (List.getElem_mem hkl)
      clear hcc hne
      cases ch : chgB cs[k]
      · have HF := hid (show fApply xs cs = ([], 1) by unfold fApply; rw [if_neg (by rw [c1]; exact fun h => by cases h), if_pos (chgs_not hkl ch)])
        cases ch1 : inB cs[k].fKind 1 2
        · go_wp2_with (go_at_call 77; refine (within_ok _ _ _ _).mono ?_; rintro e w6 ⟨rfl, rfl⟩)
          all_goals (try (simp_all; done))
          go_ret2
          exact RetSettingC.nil HF.out BX.out
        · have ch2 : setB cs[k].set = false := by simpa [chgB, ch1] using ch
          go_wp2_with (go_at_call 77; refine (within_ok _ _ _ _).mono ?_; rintro e w6 ⟨rfl, rfl⟩)
          refine (settingValid_ok cs[k].set _ hcx).mono ?_
          rintro e w6 ⟨rfl, hb6⟩
          rw [ch2]
          have BY := hid (below_trans BX.out hb6)
          clear hb6
          go_wp2_with fail
          go_ret2
          exact RetSettingC.nil HF.out BY.out
      · have ch' := ch
        simp only [chgB, Bool.and_eq_true] at ch'
        obtain ⟨ch1, ch2⟩ := ch'
        have HC2 := hid (HC.out.succ hkl ch)
        go_wp2_with (go_at_call 77; refine (within_ok _ _ _ _).mono ?_; rintro e w6 ⟨rfl, rfl⟩)
        refine (settingValid_ok cs[k].set _ hcx).mono ?_
        rintro e w6 ⟨rfl, hb6⟩
        rw [ch2]
        have BY := hid (below_trans BX.out hb6)
        clear hb6
        go_wp2_with fail
        go_roundw
        case rel => exact ⟨k + 1, by omega, by go_num, HC2.out, BY.out⟩
        case measure => simp [intOf]; omega
    · have hk2 : k = cs.length := by omega
      subst hk2
      have c2 : chgsB cs = true := chgsB_iff.2 HC.out
      have HF := hid (show fApply xs cs = applyN xs cs cs.length by unfold fApply; rw [if_neg (by rw [c1]; exact fun h => by cases h), if_neg (by rw [c2]; exact fun h => by cases h)])
      clear c2
      go_wp2_with fail
      refine (cloneSetting_ok (some ⟨g0, 0, none⟩) xs.length xs wr (HA.out.below HB.out) hn (fun h => by cases h)).mono ?_
      rintro e w2 ⟨g, rfl, ho, hb⟩
      have O2 := hid (own_mono ho HB.out.size)
      have B2 := hid (below_trans HB.out hb)
      clear ho hb
      go_wp2_with fail
      go_loopw [8, 37] (fun v i wr => ∃ (k : Nat) (A : Option Addr) (c : Nat) (l : List DSetting), k ≤ cs.length ∧ i = .int .i64 (k : Int) ∧ v = .slice A l.length c ∧ applyN xs cs k = (l, 0) ∧ wr.ownsRow w.heap.size 95 2 (.slice A l.length c) l.length (l.map DSetting.cells).flatten ∧ Below w.heap.size w wr) (fun _ i _ => cs.length - (intOf i).toNat)
      case atStart => exact ⟨0, some ⟨g, 0, none⟩, xs.length, xs, Nat.zero_le _, rfl, rfl, rfl, O2.out, B2.out⟩
      case round =>
        clear O2 B2 HB
        obtain ⟨k, A, c, l, hk, rfl, rfl, hap, hown, hbel⟩ := hrel
        have HO := hid hown
        have HB := hid hbel
        have HP := hid hap
        clear hown hbel hap
        by_cases hkl : k < cs.length
        · have BX := hid (HB.out.alloc HB.out.size (.cells #[.int .i64 cs[k].fKind, .string cs[k].fName, .int .i64 cs[k].fValue] 109))
          have OX := hid (HO.out.alloc (.cells #[.int .i64 cs[k].fKind, .string cs[k].fName, .int .i64 cs[k].fValue] 109))
          have hg := applyN_good HST.out.1 HST.out.2 HC.out k (by omega) (by rw [HP.out])
          rw [HP.out] at hg
          have HG := hid hg
          have ch := HC.out k hkl hkl
          clear hg
          have hne : cs.map DChange.cells ≠ [] := by intro e; rw [List.map_eq_nil_iff] at e; rw [e] at hkl; exact absurd hkl (by simp)
          obtain ⟨b, o, hAb, hlt, hcc⟩ := (HA2.out.below HB.out) hne
          injection hAb with hAb
          injection hAb with hb1 hb2
          subst hb1
          obtain rfl : 0 = o := hb2
          have HCC := hid hcc
          have cc0 : wr.cell? ⟨g1, 0 + k * 3, none⟩ = some (.int .i64 cs[k].fKind) := HCC.out k _ (by rw [List.getElem?_map, List.getElem?_eq_getElem hkl]; rfl) 0 _ rfl
          have cc1 : wr.cell? ⟨g1, 0 + k * 3 + 1, none⟩ = some (.string cs[k].fName) := HCC.out k _ (by rw [List.getElem?_map, List.getElem?_eq_getElem hkl]; rfl) 1 _ rfl
          have cc2 : wr.cell? ⟨g1, 0 + k * 3 + 2, none⟩ = some (.int .i64 cs[k].fValue) := HCC.out k _ (by rw [List.getElem?_map, List.getElem?_eq_getElem hkl]; rfl) 2 _ rfl
          simp only [Nat.zero_add] at cc0 cc1 cc2
          have q0 : (0 : Int) ≤ (k : Int) := by omega
          have q1 : (k : Int) < cs.length := by omega
          have hcx := HK2.out cs[k] (List.getElem_mem hkl)
          clear hcc hne
          go_wp2_with fail
          refine (apply_ok A w.heap.size c l cs[k] _ OX.out HG.out.1 HG.out.2 ch BX.out.size).mono ?_
          rintro e w3 ⟨hr, hb⟩
          obtain ⟨⟨l2, e2⟩, hre⟩ : ∃ r, r = applyC l cs[k] := ⟨_, rfl⟩
          rw [← hre] at hr
          obtain ⟨A3, c3, rfl, ho⟩ := hr
          have HR := hid hre
          have O3 := hid ho
          have B3 := hid (BX.out.trans hb)
          clear hre ho hb
          by_cases he : e2 = 0
          · subst he
            have HN := hid (show applyN xs cs (k + 1) = (l2, 0) by rw [applyN_step hkl (by rw [HP.out]), HP.out, ← HR.out])
            go_wp2_with fail
            go_roundw
            case rel => exact ⟨k + 1, A3, c3, l2, by omega, by go_num, rfl, HN.out, O3.out, B3.out⟩
            case measure => simp [intOf]; omega
          · have HN := hid (show fApply xs cs = ([], e2) by rw [HF.out]; exact applyN_fail hkl HP.out (by rw [← HR.out]) he)
            go_wp2_with fail
            go_ret2
            exact RetSettingC.nil HN.out B3.out
        · have hk2 : k = cs.length := by omega
          subst hk2
          go_wp2_with fail
          go_ret2
          exact RetSettingC.own (l := l) (by rw [HF.out, HP.out]) rfl HO.out HB.out
end Go.Proofs.Ytjeklbhdngkngaa
