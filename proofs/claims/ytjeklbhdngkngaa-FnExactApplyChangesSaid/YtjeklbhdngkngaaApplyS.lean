/- ApplyChanges: the reference. -/
import Derived.Test.YtjeklbhdngkngaaChangeM
import Derived.Test.YtjeklbhdngkngaaMergeI
import Derived.Test.YtjeklbhdngkngaaStVal
import Derived.Test.YtjeklbhdngkngaaStSet
namespace Go.Proofs.Ytjeklbhdngkngaa
open Go.RowKit
set_option linter.unusedVariables false
attribute [-go_sem] Go.run_equalIn_agg

theorem l27Change_ok (x : DChange) (b o : Nat) (w : World) (hx : x.ok) (k0 : w.cell? ⟨b, o, none⟩ = some (.int .i64 x.fKind)) (k1 : w.cell? ⟨b, o + 1, none⟩ = some (.string x.fName)) (k2 : w.cell? ⟨b, o + 1 + 1, none⟩ = some (.int .i64 x.fValue)) :
    Calls Try.prog 73 #[.pointer (some ⟨b, o, none⟩)] w fun e w' => e = .returned (.bool (chgB x)) ∧ w = w' := by
  go_enter Try.func73, Try.ntmps73
  go_wp2_with (first | (go_at_call 100; refine (l00In_ok _ _ _ _).mono ?_; rintro e w' ⟨rfl, rfl⟩) | (go_at_call 124; refine (l27Setting_ok x.set b (o + 1) _ hx k1 k2).mono ?_; rintro e w' ⟨rfl, rfl⟩))
  all_goals (go_ret; exact ⟨ret_bool (by simp [chgB, *]), rfl⟩)
theorem set_take (xs : List DSetting) (k : Nat) : (xs.map DSetting.cells).flatten.take (k * 2) = ((xs.take k).map DSetting.cells).flatten := by
  rcases Nat.le_total k xs.length with h | h
  · have e1 : (xs.map DSetting.cells).flatten = ((xs.take k).map DSetting.cells).flatten ++ ((xs.drop k).map DSetting.cells).flatten := by rw [← List.flatten_append, ← List.map_append, List.take_append_drop]
    have l1 : ((xs.take k).map DSetting.cells).flatten.length = k * 2 := by rw [flatSetting_length, List.length_take]; omega
    rw [e1, ← l1, List.take_left]
  · rw [List.take_of_length_le (by rw [flatSetting_length]; exact Nat.mul_le_mul_right _ h), List.take_of_length_le h]
theorem set_drop (xs : List DSetting) (k : Nat) : (xs.map DSetting.cells).flatten.drop (k * 2) = ((xs.drop k).map DSetting.cells).flatten := by
  rcases Nat.le_total k xs.length with h | h
  · have e1 : (xs.map DSetting.cells).flatten = ((xs.take k).map DSetting.cells).flatten ++ ((xs.drop k).map DSetting.cells).flatten := by rw [← List.flatten_append, ← List.map_append, List.take_append_drop]
    have l1 : ((xs.take k).map DSetting.cells).flatten.length = k * 2 := by rw [flatSetting_length, List.length_take]; omega
    rw [e1, ← l1, List.drop_left]
  · rw [List.drop_of_length_le (by rw [flatSetting_length]; exact Nat.mul_le_mul_right _ h), List.drop_of_length_le h]
    rfl
theorem own_slice {w : World} {B n size : Nat} {e : TypeId} {v : Value} {l : List Value} (h : w.ownsRow B e size v n l) : ∃ A c, v = .slice A n c := by
  rcases h.2 with ⟨rfl, h0⟩ | ⟨g, cap, cur, rfl, _⟩
  · subst h0
    exact ⟨_, _, rfl⟩
  · exact ⟨_, _, rfl⟩
/-- the cells of a part of a row of the call's own -/
theorem src_part {w : World} {B g c n p : Nat} {e : TypeId} {l news : List Value} (h : w.ownsRow B e 2 (.slice (some ⟨g, 0, none⟩) n c) n l) (hp : ∀ j u, news[j]? = some u → l[p + j]? = some u) : ∀ j u, news[j]? = some u → w.cell? ((⟨g, p, none⟩ : Addr).add j) = some u := fun j u hu => by
  have hadd : (⟨g, p, none⟩ : Addr).add j = ⟨g, p + j, none⟩ := by unfold Addr.add; split <;> simp_all
  have h0 := h.cells (g := g) rfl (p + j) u (hp j u hu)
  have hadd2 : (⟨g, 0, none⟩ : Addr).add (p + j) = ⟨g, p + j, none⟩ := by unfold Addr.add; split <;> simp_all
  rw [hadd2] at h0
  rw [hadd]
  exact h0

set_option maxHeartbeats 3200000 in
set_option maxRecDepth 100000 in
theorem specApplyChanges_ok (g0 : Nat) (xs : List DSetting) (g1 : Nat) (cs : List DChange) (w : World) (hA : RowsAt w 2 (some ⟨g0, 0, none⟩) (xs.map DSetting.cells)) (hok : ∀ x ∈ xs, x.ok) (hn : xs.length ≤ 1048576) (hA2 : RowsAt w 3 (some ⟨g1, 0, none⟩) (cs.map DChange.cells)) (hok2 : ∀ x ∈ cs, x.ok) (hn2 : cs.length ≤ 1048576) :
    Calls Try.prog 18 #[.slice (some ⟨g0, 0, none⟩) xs.length xs.length, .slice (some ⟨g1, 0, none⟩) cs.length cs.length] w (RetSettingC w (fApply xs cs)) := by
  have HA := hid hA
  have HK := hid hok
  have HA2 := hid hA2
  have HK2 := hid hok2
  clear hA hok hA2 hok2
  cases c1 : stateB xs
  · have HF := hid (show fApply xs cs = ([], 1) by unfold fApply; rw [if_pos c1])
    go_enter Try.func18, Try.ntmps18
    go_wp2_with fail
    refine (l27State_ok _ _ xs _ HA.out HK.out hn).mono ?_
    rintro e w1 ⟨rfl, hb⟩
    rw [c1]
    go_wp2_with fail
    go_ret2
    exact RetSettingC.nil HF.out hb
  have hst := stateB_iff.1 c1
  have HST := hid hst
  have hx24 : xs.length ≤ 24 := hst.2
  clear hst
  go_enter Try.func18, Try.ntmps18
  go_wp2_with fail
  refine (l27State_ok _ _ xs _ HA.out HK.out hn).mono ?_
  rintro e w1 ⟨rfl, hb⟩
  rw [c1]
  have HB1 := hid hb
  clear hb
  go_wp2_with fail
  go_loopw [6] (fun i wr => ∃ k : Nat, k ≤ cs.length ∧ i = .int .i64 (k : Int) ∧ ChgTo cs k ∧ Below w.heap.size w wr) (fun i _ => cs.length - (intOf i).toNat)
  case atStart => exact ⟨0, Nat.zero_le _, rfl, fun _ _ h => absurd h (Nat.not_lt_zero _), HB1.out⟩
  case round =>
    clear HB1
    obtain ⟨k, hk, rfl, hch, hbel⟩ := hrel
    have HC := hid hch
    have HB := hid hbel
    clear hch hbel
    by_cases hkl : k < cs.length
    · have hzz : 0 = 0 := rfl
      have hne : cs.map DChange.cells ≠ [] := by intro e; rw [List.map_eq_nil_iff] at e; rw [e] at hkl; exact absurd hkl (by simp)
      obtain ⟨b, o, hAb, hlt, hcc⟩ := (HA2.out.below HB.out) hne
      injection hAb with hAb
      injection hAb with hb1 hb2
      subst hb1
      obtain rfl : 0 = o := hb2
      have HCC := hid hcc
      have cc0 : wr.cell? ⟨g1, 0 + k * 3, none⟩ = some (.int .i64 cs[k].fKind) := HCC.out k _ (by rw [List.getElem?_map, List.getElem?_eq_getElem hkl]; rfl) 0 _ rfl
      have cc1 : wr.cell? ⟨g1, 0 + k * 3 + 1, none⟩ = some (.string cs[k].fName) := HCC.out k _ (by rw [List.getElem?_map, List.getElem?_eq_getElem hkl]; rfl) 1 _ rfl
      have cc2 : wr.cell? ⟨g1, 0 + k * 3 + 2, none⟩ = some (.int .i64 cs[k].fValue) := HCC.out k _ (by rw [List.getElem?_map, List.getElem?_eq_getElem hkl]; rfl) 2 _ rfl
      simp only [Nat.zero_add] at cc0 cc1 cc2
      have q0 : (0 : Int) ≤ (k : Int) := by omega
      have q1 : (k : Int) < cs.length := by omega
      have hcx := HK2.out cs[k] (List.getElem_mem hkl)
      clear hcc hne
      cases ch : chgB cs[k]
      · have HF := hid (show fApply xs cs = ([], 1) by unfold fApply; rw [if_neg (by rw [c1]; exact fun h => by cases h), if_pos (chgs_not hkl ch)])
        go_wp2_with fail
        refine (l27Change_ok cs[k] g1 (k * 3) _ hcx cc0 cc1 cc2).mono ?_
        rintro e w6 ⟨rfl, rfl⟩
        rw [ch]
        go_wp2_with fail
        go_ret2
        exact RetSettingC.nil HF.out HB.out
      · have HC2 := hid (HC.out.succ hkl ch)
        go_wp2_with fail
        refine (l27Change_ok cs[k] g1 (k * 3) _ hcx cc0 cc1 cc2).mono ?_
        rintro e w6 ⟨rfl, rfl⟩
        rw [ch]
        go_wp2_with fail
        go_roundw
        case rel => exact ⟨k + 1, by omega, by go_num, HC2.out, HB.out⟩
        case measure => simp [intOf]; omega
    · have hk2 : k = cs.length := by omega
      subst hk2
      have c2 : chgsB cs = true := chgsB_iff.2 HC.out
      have HF := hid (show fApply xs cs = applyN xs cs cs.length by unfold fApply; rw [if_neg (by rw [c1]; exact fun h => by cases h), if_neg (by rw [c2]; exact fun h => by cases h)])
      clear c2
      have E0 := hid (World.ownsRow_lit (base := w.heap.size) (e := 95) (size := 2) wr #[] 0 HB.out.size (by unfold maxLen; omega) rfl)
      have BE := hid (HB.out.alloc HB.out.size (.cells #[] 95))
      have SR := hid (show SrcAt (wr.alloc (.cells #[] 95)) (some ⟨g0, 0, none⟩) (xs.map DSetting.cells).flatten from ((HA.out.below HB.out).below (below_alloc wr _)).src (cellsSetting_len xs) (by omega))
      go_wp2_with (at_builtin; refine wpList_app_src (w0 := w) rfl _ _ 24 rfl w.heap.size 95 (.agg #[.string ⟨#[]⟩, .int .i64 0]) 2 24 Try.underlying24 infoSetting rfl (by decide) _ 0 _ rfl E0.out (some ⟨g0, 0, none⟩) xs.length xs.length (xs.map DSetting.cells).flatten rfl (flatSetting_length xs) (fun h => by cases h) SR.out (oneSetting xs) (by omega) BE.out.size BE.out ?_; intro v1 w2 hown1 hbel1 hz1)
      have O2 := hid (show w2.ownsRow w.heap.size 95 2 v1 xs.length (xs.map DSetting.cells).flatten by simpa using hown1)
      have B2 := hid hbel1
      obtain ⟨A2, c2, rfl⟩ := own_slice O2.out
      clear hown1 hbel1 hz1
      go_wp2_with fail
      go_loopw [7, 8] (fun v i wr => ∃ (k : Nat) (A : Option Addr) (c : Nat) (l : List DSetting), k ≤ cs.length ∧ i = .int .i64 (k : Int) ∧ v = .slice A l.length c ∧ applyN xs cs k = (l, 0) ∧ wr.ownsRow w.heap.size 95 2 (.slice A l.length c) l.length (l.map DSetting.cells).flatten ∧ Below w.heap.size w wr) (fun _ i _ => cs.length - (intOf i).toNat)
      case atStart => exact ⟨0, A2, c2, xs, Nat.zero_le _, rfl, rfl, rfl, O2.out, B2.out⟩
      case round =>
        clear O2 B2 HB E0 BE SR
        obtain ⟨k, A, c, l, hk, rfl, rfl, hap, hown, hbel⟩ := hrel
        have HO := hid hown
        have HB := hid hbel
        have HP := hid hap
        clear hown hbel hap
        by_cases hkl : k < cs.length
        · have BX := hid (HB.out.alloc HB.out.size (.cells #[.string cs[k].fName, .int .i64 cs[k].fValue] 95))
          have OX := hid (HO.out.alloc (.cells #[.string cs[k].fName, .int .i64 cs[k].fValue] 95))
          have hg := applyN_good HST.out.1 HST.out.2 HC.out k (by omega) (by rw [HP.out])
          rw [HP.out] at hg
          have HG := hid hg
          have hl24 : l.length ≤ 24 := hg.2
          have ch := HC.out k hkl hkl
          have RX := hid (rows_own OX.out (by simp) (cellsSetting_len _))
          have hkind : cs[k].fKind = 1 ∨ cs[k].fKind = 2 := by
            simp only [chgB, Bool.and_eq_true, inB_iff] at ch
            omega
          clear hg ch
          have hne : cs.map DChange.cells ≠ [] := by intro e; rw [List.map_eq_nil_iff] at e; rw [e] at hkl; exact absurd hkl (by simp)
          obtain ⟨b, o, hAb, hlt, hcc⟩ := (HA2.out.below HB.out) hne
          injection hAb with hAb
          injection hAb with hb1 hb2
          subst hb1
          obtain rfl : 0 = o := hb2
          have HCC := hid hcc
          have cc0 : wr.cell? ⟨g1, 0 + k * 3, none⟩ = some (.int .i64 cs[k].fKind) := HCC.out k _ (by rw [List.getElem?_map, List.getElem?_eq_getElem hkl]; rfl) 0 _ rfl
          have cc1 : wr.cell? ⟨g1, 0 + k * 3 + 1, none⟩ = some (.string cs[k].fName) := HCC.out k _ (by rw [List.getElem?_map, List.getElem?_eq_getElem hkl]; rfl) 1 _ rfl
          have cc2 : wr.cell? ⟨g1, 0 + k * 3 + 2, none⟩ = some (.int .i64 cs[k].fValue) := HCC.out k _ (by rw [List.getElem?_map, List.getElem?_eq_getElem hkl]; rfl) 2 _ rfl
          simp only [Nat.zero_add] at cc0 cc1 cc2
          have q0 : (0 : Int) ≤ (k : Int) := by omega
          have q1 : (k : Int) < cs.length := by omega
          have hcx := HK2.out cs[k] (List.getElem_mem hkl)
          clear hcc hne
          rcases hkind with hk1 | hk2
          · have dk : (cs[k].fKind == 1) = true := by rw [hk1]; rfl
            have K1 := hid hk1
            clear hk1
            go_wp2_with fail
            refine (l27Set_ok A c l cs[k].set _ RX.out (by omega)).mono ?_
            rintro e w3 ⟨⟨g3, c3, rfl, ho⟩, hb⟩
            have O3 := hid (own_mono ho BX.out.size)
            have B3 := hid (below_trans BX.out hb)
            clear ho hb
            by_cases h24 : 24 < (setS l cs[k].set).length
            · have HN := hid (show fApply xs cs = ([], 5) by rw [HF.out]; exact applyN_fail hkl HP.out (by rw [applyC, if_pos K1.out, if_pos h24]) (by decide))
              have q24 : (24 : Int) < ((setS l cs[k].set).length : Int) := by omega
              clear h24
              go_wp2_with fail
              go_ret2
              exact RetSettingC.nil HN.out B3.out
            · have HN := hid (show applyN xs cs (k + 1) = (setS l cs[k].set, 0) by rw [applyN_step hkl (by rw [HP.out]), HP.out, applyC, if_pos K1.out, if_neg h24])
              have q24 : ¬ (24 : Int) < ((setS l cs[k].set).length : Int) := by omega
              clear h24
              go_wp2_with fail
              go_roundw
              case rel => exact ⟨k + 1, some ⟨g3, 0, none⟩, c3, setS l cs[k].set, by omega, by go_num, rfl, HN.out, O3.out, B3.out⟩
              case measure => simp [intOf]; omega
          · have dk : (cs[k].fKind == 1) = false := by rw [hk2]; rfl
            have K2 := hid (show cs[k].fKind ≠ 1 by omega)
            clear hk2
            go_wp2_with fail
            refine (l27At_ok A c l cs[k].fName _ RX.out (by omega)).mono ?_
            rintro e w3 ⟨⟨r, rfl, hor⟩, rfl⟩
            rcases hor with ⟨rfl, hno⟩ | ⟨i, rfl, ⟨hil, he⟩, hno⟩
            · have HN := hid (show fApply xs cs = ([], 3) by rw [HF.out]; exact applyN_fail hkl HP.out (by rw [applyC_none K2.out hno]) (by decide))
              clear hno
              go_wp2_with fail
              go_ret2
              exact RetSettingC.nil HN.out BX.out
            · obtain ⟨g, cap', hv, hBg, hgl, _⟩ := own_form OX.out (by omega)
              injection hv with a1 a2 a3
              subst a1 a3
              have hlc : l.length ≤ c ∧ c ≤ 9223372036854775807 := by
                rcases OX.out.2 with ⟨h0, h1⟩ | ⟨g', cap', cur, hv, h1, h2, h3, h4, h5, h6⟩
                · cases h0
                · injection hv with a1 _ a3
                  unfold maxLen at h4
                  omega
              have old0 : (wr.alloc (.cells #[.string cs[k].fName, .int .i64 cs[k].fValue] 95)).cell? ⟨g, i * 2, none⟩ = some (.string l[i].fName) := by
                rw [OX.out.cellAt (i * 2) (by omega)]
                exact (flatten_at (j := 0) (cellsSetting_len l) (by rw [List.getElem?_map, List.getElem?_eq_getElem hil]; rfl) (by omega)).trans rfl
              have old1 : (wr.alloc (.cells #[.string cs[k].fName, .int .i64 cs[k].fValue] 95)).cell? ⟨g, i * 2 + 1, none⟩ = some (.int .i64 l[i].fValue) := by
                rw [OX.out.cellAt (i * 2 + 1) (by omega)]
                exact (flatten_at (j := 1) (cellsSetting_len l) (by rw [List.getElem?_map, List.getElem?_eq_getElem hil]; rfl) (by omega)).trans rfl
              have q2 : (0 : Int) ≤ (i : Int) := by omega
              have q3 : (i : Int) < l.length := by omega
              have h0 := applyC_at K2.out hil hno he
              cases hq : eqF l[i].fName cs[k].fName l[i].fValue cs[k].fValue
              · have HN := hid (show fApply xs cs = ([], 6) by rw [HF.out]; exact applyN_fail hkl HP.out (by rw [h0, hq]; rfl) (by decide))
                clear hno he h0
                go_wp2_with fail
                go_quiet (fail)
                go_wp2_with fail
                go_ret2
                exact RetSettingC.nil HN.out (below_drewN' BX.out _)
              · have HN := hid (show applyN xs cs (k + 1) = (l.eraseIdx i, 0) by rw [applyN_step hkl (by rw [HP.out]), HP.out, h0, hq]; rfl)
                clear hno he h0
                have q4 : (i : Int) ≤ (c : Int) := by omega
                have q5 : (i : Int) + 1 ≤ l.length := by omega
                have q6 : (0 : Int) ≤ (i : Int) + 1 := by omega
                have q7 : ((i : Int) + 1).toNat = i + 1 := by omega
                have hic : i ≤ c := by omega
                have hnc : ¬ (c = i) := by omega
                go_wp2_with fail
                go_quiet (fail)
                have OW := (show ((wr.alloc (.cells #[.string cs[k].fName, .int .i64 cs[k].fValue] 95)).drewN nq).ownsRow w.heap.size 95 2 (.slice (some ⟨g, 0, none⟩) l.length c) l.length (l.map DSetting.cells).flatten from OX.out)
                have BW := below_drewN' BX.out nq
                generalize (wr.alloc (.cells #[.string cs[k].fName, .int .i64 cs[k].fValue] 95)).drewN nq = W at OW BW ⊢
                have OW := hid OW
                have BW := hid BW
                have EW := hid (World.ownsRow_lit (base := W.heap.size) (e := 95) (size := 2) W #[] 0 (Nat.le_refl _) (by unfold maxLen; omega) rfl)
                have XW := hid (below_alloc W (.cells #[] 95))
                have OV := hid (own_below OW.out XW.out)
                have tl : ((l.map DSetting.cells).flatten.take (i * 2)).length = i * 2 := by rw [List.length_take, flatSetting_length]; omega
                have dl : ((l.map DSetting.cells).flatten.drop ((i + 1) * 2)).length = (l.length - (i + 1)) * 2 := by rw [List.length_drop, flatSetting_length]; omega
                have TL := hid tl
                have DL := hid dl
                have SA := hid (show SrcAt (W.alloc (.cells #[] 95)) (some ⟨g, 0, none⟩) ((l.map DSetting.cells).flatten.take (i * 2)) from fun _ => ⟨_, rfl, src_part OV.out (fun j u hu => by rw [Nat.zero_add]; rw [List.getElem?_take] at hu; split at hu; exact hu; cases hu)⟩)
                have HE := hid (show (l.map DSetting.cells).flatten.take (i * 2) ++ (l.map DSetting.cells).flatten.drop ((i + 1) * 2) = ((l.eraseIdx i).map DSetting.cells).flatten by rw [set_take, set_drop, List.eraseIdx_eq_take_drop_succ, List.map_append, List.flatten_append])
                clear tl dl
                by_cases hcc : c = i + 1
                · subst hcc
                  have SD := hid (show (l.map DSetting.cells).flatten.drop ((i + 1) * 2) = [] from List.eq_nil_of_length_eq_zero (by rw [DL.out]; omega))
                  go_wp2_with (first
                    | (at_builtin; refine wpList_app_src (w0 := W) rfl _ _ 24 rfl W.heap.size 95 (.agg #[.string ⟨#[]⟩, .int .i64 0]) 2 24 Try.underlying24 infoSetting rfl (by decide) _ 0 _ rfl EW.out (some ⟨g, 0, none⟩) i (i + 1) ((l.map DSetting.cells).flatten.take (i * 2)) rfl TL.out (fun h => by cases h) SA.out (fun u hu => oneSetting l u (List.mem_of_mem_take hu)) (by omega) XW.out.size XW.out ?_; intro v3 w3 hown3 hbel3 hz3; have O3 := hid (show w3.ownsRow W.heap.size 95 2 v3 i ((l.map DSetting.cells).flatten.take (i * 2)) by simpa using hown3); have X3 := hid hbel3; have OU := hid (own_below OW.out hbel3); obtain ⟨A3, c3, rfl⟩ := own_slice O3.out; clear hown3 hbel3 hz3)
                    | (at_builtin; refine wpList_app_src (w0 := W) rfl _ _ 24 rfl W.heap.size 95 (.agg #[.string ⟨#[]⟩, .int .i64 0]) 2 24 Try.underlying24 infoSetting rfl (by decide) _ i _ rfl O3.out (some ⟨g, 0, none⟩) _ _ ((l.map DSetting.cells).flatten.drop ((i + 1) * 2)) rfl (by rw [DL.out]; omega) (fun h => by cases h) (fun hne => absurd SD.out hne) (fun u hu => oneSetting l u (List.mem_of_mem_drop hu)) (by omega) X3.out.size X3.out ?_; intro v4 w4 hown4 hbel4 hz4))
                  have hle : i + 0 = (l.eraseIdx i).length := by rw [List.length_eraseIdx_of_lt hil]; omega
                  rw [HE.out, hle] at hown4
                  obtain ⟨A4, c4, rfl⟩ := own_slice hown4
                  have O4 := hid (own_mono hown4 BW.out.size)
                  have B4 := hid (below_trans BW.out hbel4)
                  clear hown4 hbel4 hz4 hle
                  go_wp2_with fail
                  go_roundw
                  case rel => exact ⟨k + 1, A4, c4, l.eraseIdx i, by omega, by go_num, rfl, HN.out, O4.out, B4.out⟩
                  case measure => simp [intOf]; omega
                · have hcc2 : ¬ (i + 1 = c) := fun h => hcc h.symm
                  go_wp2_with (first
                    | (at_builtin; refine wpList_app_src (w0 := W) rfl _ _ 24 rfl W.heap.size 95 (.agg #[.string ⟨#[]⟩, .int .i64 0]) 2 24 Try.underlying24 infoSetting rfl (by decide) _ 0 _ rfl EW.out (some ⟨g, 0, none⟩) i c ((l.map DSetting.cells).flatten.take (i * 2)) rfl TL.out (fun h => by cases h) SA.out (fun u hu => oneSetting l u (List.mem_of_mem_take hu)) (by omega) XW.out.size XW.out ?_; intro v3 w3 hown3 hbel3 hz3; have O3 := hid (show w3.ownsRow W.heap.size 95 2 v3 i ((l.map DSetting.cells).flatten.take (i * 2)) by simpa using hown3); have X3 := hid hbel3; have OU := hid (own_below OW.out hbel3); obtain ⟨A3, c3, rfl⟩ := own_slice O3.out; clear hown3 hbel3 hz3)
                    | (at_builtin; refine wpList_app_src (w0 := W) rfl _ _ 24 rfl W.heap.size 95 (.agg #[.string ⟨#[]⟩, .int .i64 0]) 2 24 Try.underlying24 infoSetting rfl (by decide) _ i _ rfl O3.out (some ⟨g, (i + 1) * 2, none⟩) _ _ ((l.map DSetting.cells).flatten.drop ((i + 1) * 2)) rfl DL.out (fun h => by cases h) (fun _ => ⟨_, rfl, src_part OU.out (fun j u hu => by rw [List.getElem?_drop] at hu; exact hu)⟩) (fun u hu => oneSetting l u (List.mem_of_mem_drop hu)) (by omega) X3.out.size X3.out ?_; intro v4 w4 hown4 hbel4 hz4))
                  have hle : i + (l.length - (i + 1)) = (l.eraseIdx i).length := by rw [List.length_eraseIdx_of_lt hil]; omega
                  rw [HE.out, hle] at hown4
                  obtain ⟨A4, c4, rfl⟩ := own_slice hown4
                  have O4 := hid (own_mono hown4 BW.out.size)
                  have B4 := hid (below_trans BW.out hbel4)
                  clear hown4 hbel4 hz4 hle
                  go_wp2_with fail
                  go_roundw
                  case rel => exact ⟨k + 1, A4, c4, l.eraseIdx i, by omega, by go_num, rfl, HN.out, O4.out, B4.out⟩
                  case measure => simp [intOf]; omega
        · have hk2 : k = cs.length := by omega
          subst hk2
          go_wp2_with fail
          go_ret2
          exact RetSettingC.own (l := l) (by rw [HF.out, HP.out]) rfl HO.out HB.out
end Go.Proofs.Ytjeklbhdngkngaa
