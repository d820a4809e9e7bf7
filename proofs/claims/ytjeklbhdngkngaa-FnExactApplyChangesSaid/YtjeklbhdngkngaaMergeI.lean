/- Merged states: the walk of the program. -/
import Derived.Test.YtjeklbhdngkngaaMergeF
import Derived.Test.YtjeklbhdngkngaaMSetting
import Derived.Test.YtjeklbhdngkngaaHSetting
import Derived.Test.YtjeklbhdngkngaaApp2
namespace Go.Proofs.Ytjeklbhdngkngaa
open Go.RowKit
set_option linter.unusedVariables false
/-- a list in new memory and a code -/
def RetSettingC (w : World) (r : List DSetting × Int) (e : Ending) (w' : World) : Prop :=
  ∃ A c, e = .returned (.tuple #[.slice A r.1.length c, .int .i64 r.2]) ∧ w'.ownsRow w.heap.size 95 2 (.slice A r.1.length c) r.1.length (r.1.map DSetting.cells).flatten ∧ (A = none → c = 0) ∧ Below w.heap.size w w'
theorem RetSettingC.nil {w w' : World} {r : List DSetting × Int} {c : Int} (h : r = ([], c)) (hb : Below w.heap.size w w') : RetSettingC w r (.returned (.tuple #[.slice none 0 0, .int .i64 c])) w' := by
  subst h
  exact ⟨none, 0, rfl, World.ownsRow_nil _ _ _ _, fun _ => rfl, hb⟩
theorem RetSettingC.own {w w' : World} {r : List DSetting × Int} {c : Int} {v : Value} {l : List DSetting} {n : Nat} (h : r = (l, c)) (hn : n = l.length) (ho : w'.ownsRow w.heap.size 95 2 v n (l.map DSetting.cells).flatten) (hb : Below w.heap.size w w') : RetSettingC w r (.returned (.tuple #[v, .int .i64 c])) w' := by
  subst h hn
  obtain ⟨h1, h2⟩ := ho
  rcases h2 with ⟨rfl, h0⟩ | ⟨g, cap, cur, rfl, r⟩
  · have : l = [] := by simpa using h0
    subst this
    exact ⟨none, 0, rfl, World.ownsRow_nil _ _ _ _, fun _ => rfl, hb⟩
  · exact ⟨_, _, rfl, ⟨h1, .inr ⟨g, cap, cur, rfl, r⟩⟩, fun h => (by cases h), hb⟩


theorem value_bel (A : Option Addr) (c : Nat) (xs : List DSetting) (z : Str) (w : World) (hA : RowsAt w 2 A (xs.map DSetting.cells)) (hs : StateTo xs xs.length) (hn : xs.length ≤ 24) (v : Int) (hv : valN xs z = v) :
    Calls Try.prog 68 #[.slice A xs.length c, .string (tB z)] w fun e w' => e = .returned (.int .i64 v) ∧ Below w.heap.size w w' := by
  subst hv
  exact (value_ok A c xs (tB z) w hA hs hn).mono fun _ _ ⟨he, m, hm⟩ => ⟨he, by rw [hm]; exact below_drewN _ _⟩
theorem conflicts_gen (A0 : Option Addr) (c0 : Nat) (rs : List DSetting) (A1 : Option Addr) (c1 : Nat) (ss : List DSetting) (A2 : Option Addr) (c2 : Nat) (ts : List DSetting) (w : World) (hA0 : RowsAt w 2 A0 (rs.map DSetting.cells)) (hs0 : StateTo rs rs.length) (hn0 : rs.length ≤ 24) (hA1 : RowsAt w 2 A1 (ss.map DSetting.cells)) (hs1 : StateTo ss ss.length) (hn1 : ss.length ≤ 24) (hA2 : RowsAt w 2 A2 (ts.map DSetting.cells)) (hs2 : StateTo ts ts.length) (hn2 : ts.length ≤ 24) (n : Nat) (hn : n = (confN rs ss ts).length) :
    Calls Try.prog 66 #[.slice A0 rs.length c0, .slice A1 ss.length c1, .slice A2 ts.length c2] w fun e w' => (∃ g c', e = .returned (.slice (some ⟨g, 0, none⟩) n c')) ∧ Below w.heap.size w w' := by
  subst hn
  exact (conflicts_ok A0 c0 rs A1 c1 ss A2 c2 ts w hA0 hs0 hn0 hA1 hs1 hn1 hA2 hs2 hn2).mono fun _ _ ⟨⟨g, c', he, _⟩, hb⟩ => ⟨⟨g, c', he⟩, hb⟩
theorem mergeK_no {rs ss ts : List DSetting} {zs : List Str} {k : Nat} (h : k < zs.length) (hv : mergeV rs ss ts zs[k] < 0) : mergeK rs ss ts zs (k + 1) = mergeK rs ss ts zs k := by
  rw [mergeK_succ h, if_neg (by unfold mergeP; simp; omega), List.append_nil]
theorem mergeK_yes {rs ss ts : List DSetting} {zs : List Str} {k : Nat} (h : k < zs.length) {v : Int} (hv : mergeV rs ss ts zs[k] = v) (h0 : 0 ≤ v) : mergeK rs ss ts zs (k + 1) = mergeK rs ss ts zs k ++ [⟨tB zs[k], v⟩] := by
  rw [mergeK_succ h, if_pos (by unfold mergeP; rw [hv]; exact decide_eq_true h0)]
  unfold mkSet
  rw [hv]
theorem mergeL_len {rs ss ts : List DSetting} : (mergeL rs ss ts).length ≤ (setOf (allsN [ss, ts] 2)).length := mergeK_len _
theorem two_len {ss ts : List DSetting} (h1 : ss.length ≤ 24) (h2 : ts.length ≤ 24) : (setOf (allsN [ss, ts] 2)).length ≤ 48 := by
  have h3 := allsN_len (ls := [ss, ts]) (fun l hl => by simp only [List.mem_cons, List.not_mem_nil, or_false] at hl; rcases hl with rfl | rfl <;> assumption) 2 (Nat.le_refl _)
  have h4 := setOf_len (allsN [ss, ts] 2)
  omega

set_option maxHeartbeats 3200000 in
set_option maxRecDepth 100000 in
theorem implMerge_ok (A0 : Option Addr) (c0 : Nat) (rs : List DSetting) (A1 : Option Addr) (c1 : Nat) (ss : List DSetting) (A2 : Option Addr) (c2 : Nat) (ts : List DSetting) (w : World) (hA0 : RowsAt w 2 A0 (rs.map DSetting.cells)) (hk0 : ∀ x ∈ rs, x.ok) (hn0 : rs.length ≤ 1048576) (hA1 : RowsAt w 2 A1 (ss.map DSetting.cells)) (hk1 : ∀ x ∈ ss, x.ok) (hn1 : ss.length ≤ 1048576) (hA2 : RowsAt w 2 A2 (ts.map DSetting.cells)) (hk2 : ∀ x ∈ ts, x.ok) (hn2 : ts.length ≤ 1048576) :
    Calls Try.prog 13 #[.slice A0 rs.length c0, .slice A1 ss.length c1, .slice A2 ts.length c2] w (RetSettingC w (fMerge rs ss ts)) := by
  have HA0 := hid hA0
  have HK0 := hid hk0
  have HA1 := hid hA1
  have HK1 := hid hk1
  have HA2 := hid hA2
  have HK2 := hid hk2
  clear hA0 hA1 hA2 hk0 hk1 hk2
  cases e0 : stateB rs
  · have HF := hid (show fMerge rs ss ts = ([], 1) by unfold fMerge; rw [if_pos (by rw [e0]; simp)])
    go_enter Try.func13, Try.ntmps13
    go_wp2_with (first | (go_at_call 65; refine (ValidState_ok A0 c0 rs _ HA0.out HK0.out hn0).mono ?_; rintro e w1 ⟨rfl, hb⟩; have B1 := hid hb; clear hb))
    go_ret2
    exact RetSettingC.nil HF.out B1.out
  cases e1 : stateB ss
  · have HF := hid (show fMerge rs ss ts = ([], 1) by unfold fMerge; rw [if_pos (by rw [e0, e1]; simp)])
    go_enter Try.func13, Try.ntmps13
    go_wp2_with (first | (go_at_call 65; refine (ValidState_ok A1 c1 ss _ (HA1.out.below B1.out) HK1.out hn1).mono ?_; rintro e w2 ⟨rfl, hb⟩; have B2 := hid (below_trans B1.out hb); clear hb) | (go_at_call 65; refine (ValidState_ok A0 c0 rs _ HA0.out HK0.out hn0).mono ?_; rintro e w1 ⟨rfl, hb⟩; have B1 := hid hb; clear hb))
    go_ret2
    exact RetSettingC.nil HF.out B2.out
  cases e2 : stateB ts
  · have HF := hid (show fMerge rs ss ts = ([], 1) by unfold fMerge; rw [if_pos (by rw [e0, e1, e2]; simp)])
    go_enter Try.func13, Try.ntmps13
    go_wp2_with (first | (go_at_call 65; refine (ValidState_ok A2 c2 ts _ (HA2.out.below B2.out) HK2.out hn2).mono ?_; rintro e w3 ⟨rfl, hb⟩; have B3 := hid (below_trans B2.out hb); clear hb) | (go_at_call 65; refine (ValidState_ok A1 c1 ss _ (HA1.out.below B1.out) HK1.out hn1).mono ?_; rintro e w2 ⟨rfl, hb⟩; have B2 := hid (below_trans B1.out hb); clear hb) | (go_at_call 65; refine (ValidState_ok A0 c0 rs _ HA0.out HK0.out hn0).mono ?_; rintro e w1 ⟨rfl, hb⟩; have B1 := hid hb; clear hb))
    go_ret2
    exact RetSettingC.nil HF.out B3.out
  have HE := hid (show ¬ ((stateB rs && stateB ss && stateB ts) = false) by rw [e0, e1, e2]; simp)
  have t0 := stateB_iff.1 e0
  have t1 := stateB_iff.1 e1
  have t2 := stateB_iff.1 e2
  have T0 := hid t0
  have T1 := hid t1
  have T2 := hid t2
  have l0 := t0.2
  have l1 := t1.2
  have l2 := t2.2
  clear t0 t1 t2
  obtain ⟨cn, hcn⟩ : ∃ cn, cn = (confN rs ss ts).length := ⟨_, rfl⟩
  have HCN := hid hcn
  clear hcn
  by_cases hc0 : 0 < cn
  · have HF := hid (show fMerge rs ss ts = ([], 6) by
      unfold fMerge
      rw [if_neg HE.out, if_pos (by intro e; have := HCN.out; rw [e] at this; simp at this; omega)])
    go_enter Try.func13, Try.ntmps13
    go_wp2_with (first | (go_at_call 66; refine (conflicts_gen A0 c0 rs A1 c1 ss A2 c2 ts _ (HA0.out.below B3.out) T0.out.1 l0 (HA1.out.below B3.out) T1.out.1 l1 (HA2.out.below B3.out) T2.out.1 l2 cn HCN.out).mono ?_; rintro e w4 ⟨⟨g4, c4, rfl⟩, hb⟩; have B4 := hid (below_trans B3.out hb); clear hb) | (go_at_call 65; refine (ValidState_ok A2 c2 ts _ (HA2.out.below B2.out) HK2.out hn2).mono ?_; rintro e w3 ⟨rfl, hb⟩; have B3 := hid (below_trans B2.out hb); clear hb) | (go_at_call 65; refine (ValidState_ok A1 c1 ss _ (HA1.out.below B1.out) HK1.out hn1).mono ?_; rintro e w2 ⟨rfl, hb⟩; have B2 := hid (below_trans B1.out hb); clear hb) | (go_at_call 65; refine (ValidState_ok A0 c0 rs _ HA0.out HK0.out hn0).mono ?_; rintro e w1 ⟨rfl, hb⟩; have B1 := hid hb; clear hb))
    go_ret2
    exact RetSettingC.nil HF.out B4.out
  have hc1 : cn = 0 := by omega
  have HC0 := hid (show confN rs ss ts = [] from List.eq_nil_of_length_eq_zero (by rw [← HCN.out]; exact hc1))
  clear hc1
  have H24 := hid (show ∀ l ∈ [ss, ts], l.length ≤ 24 from fun l hl => by simp only [List.mem_cons, List.not_mem_nil, or_false] at hl; rcases hl with rfl | rfl <;> assumption)
  have HGf := hid (show ∀ w4, Below w.heap.size w w4 → StatesAt ((w4.alloc (.cells #[] 95)).alloc (.cells #[.slice A1 ss.length c1, .slice A2 ts.length c2] 24)) (w4.heap.size + 1) [ss, ts] from fun w4 hb => by
    have N := HasC.new (w4.alloc (.cells #[] 95)) [.slice A1 ss.length c1, .slice A2 ts.length c2] 24
    rw [show (w4.alloc (.cells #[] 95)).heap.size = w4.heap.size + 1 by simp] at N
    have hbb : Below w.heap.size w ((w4.alloc (.cells #[] 95)).alloc (.cells #[.slice A1 ss.length c1, .slice A2 ts.length c2] 24)) := (below_trans hb (below_alloc _ _)).trans ((below_alloc _ _).mono (by have := hb.size; simp; omega))
    exact ⟨N.1, fun i l h => by
      match i, h with
      | 0, h => cases h; exact ⟨A1, c1, N.2 0 _ rfl, HA1.out.below hbb⟩
      | 1, h => cases h; exact ⟨A2, c2, N.2 1 _ rfl, HA2.out.below hbb⟩
      | n + 2, h => simp at h⟩)
  have hzl := two_len l1 l2
  have HL := hid (show mergeL rs ss ts = mergeK rs ss ts (setOf (allsN [ss, ts] 2)) (setOf (allsN [ss, ts] 2)).length from rfl)
  go_enter Try.func13, Try.ntmps13
  go_wp2_with (first | (go_at_call 66; refine (conflicts_gen A0 c0 rs A1 c1 ss A2 c2 ts _ (HA0.out.below B3.out) T0.out.1 l0 (HA1.out.below B3.out) T1.out.1 l1 (HA2.out.below B3.out) T2.out.1 l2 cn HCN.out).mono ?_; rintro e w4 ⟨⟨g4, c4, rfl⟩, hb⟩; have B4 := hid (below_trans B3.out hb); clear hb) | (go_at_call 65; refine (ValidState_ok A2 c2 ts _ (HA2.out.below B2.out) HK2.out hn2).mono ?_; rintro e w3 ⟨rfl, hb⟩; have B3 := hid (below_trans B2.out hb); clear hb) | (go_at_call 65; refine (ValidState_ok A1 c1 ss _ (HA1.out.below B1.out) HK1.out hn1).mono ?_; rintro e w2 ⟨rfl, hb⟩; have B2 := hid (below_trans B1.out hb); clear hb) | (go_at_call 65; refine (ValidState_ok A0 c0 rs _ HA0.out HK0.out hn0).mono ?_; rintro e w1 ⟨rfl, hb⟩; have B1 := hid hb; clear hb))
  have HG := hid (HGf.out w4 B4.out)
  refine (namesOf_ok (w4.heap.size + 1) 2 [ss, ts] _ HG.out H24.out (by simp)).mono ?_
  rintro e w7 ⟨⟨gn, kn, rfl, ho⟩, hb⟩
  obtain ⟨zs, hzs⟩ : ∃ zs, zs = setOf (allsN [ss, ts] 2) := ⟨_, rfl⟩
  have HZS := hid hzs
  rw [show [ss, ts].length = 2 from rfl] at ho
  rw [show [ss, ts].length = 2 from rfl]
  rw [← hzs] at ho hzl HL
  rw [← hzs]
  clear hzs HGf
  have hgn := (own_cap ho).2.2.1
  have hz6 : ((w4.alloc (.cells #[] 95)).alloc (.cells #[.slice A1 ss.length c1, .slice A2 ts.length c2] 24)).heap.size = w4.heap.size + 2 := by simp
  have hz4 := B4.out.size
  rw [hz6] at hgn ho
  have NO := hid (own_mono ho (show w.heap.size ≤ w4.heap.size + 2 by omega))
  have OO := hid (show w7.ownsRow w.heap.size 95 2 (.slice (some ⟨w4.heap.size, 0, none⟩) 0 0) 0 [] from own_below ((own_mono (World.ownsRow_lit w4 #[] 0 (Nat.le_refl _) (by unfold maxLen; omega) rfl) hz4).alloc _) hb)
  have B7 := hid (show Below w.heap.size w w7 from ((below_trans B4.out (below_alloc _ _)).trans ((below_alloc _ _).mono (by simp; omega))).trans (hb.mono (by rw [hz6]; omega)))
  have hgne : gn ≠ w4.heap.size := by omega
  clear ho hb hz6
  go_wp2_with fail
  go_loopw [8, 37] (fun v m wr => ∃ (k g cc : Nat), k ≤ zs.length ∧ m = .int .i64 k ∧ v = .slice (some ⟨g, 0, none⟩) (mergeK rs ss ts zs k).length cc ∧ wr.ownsRow w.heap.size 95 2 (.slice (some ⟨g, 0, none⟩) (mergeK rs ss ts zs k).length cc) (mergeK rs ss ts zs k).length ((mergeK rs ss ts zs k).map DSetting.cells).flatten ∧ wr.ownsRow w.heap.size 9 1 (.slice (some ⟨gn, 0, none⟩) zs.length kn) zs.length (zs.map vS) ∧ gn ≠ g ∧ Below w.heap.size w wr) (fun _ m _ => zs.length - (intOf m).toNat)
  case atStart => exact ⟨0, w4.heap.size, 0, Nat.zero_le _, rfl, rfl, OO.out, NO.out, hgne, B7.out⟩
  case round =>
    obtain ⟨k, g, cc, hk, rfl, rfl, hown, hownn, hne, hbel⟩ := hrel
    have HO := hid hown
    have HN := hid hownn
    have HB := hid hbel
    have hml := mergeK_len (rs := rs) (ss := ss) (ts := ts) (zs := zs) k
    clear hown hownn hbel hgne hgn
    by_cases hkl : k < zs.length
    · have hcN : wr.cell? ⟨gn, k, none⟩ = some (.string (tB zs[k])) := by
        rw [HN.out.cellAt k (by omega), List.getElem?_map, List.getElem?_eq_getElem hkl]
        rfl
      have q0 : (0 : Int) ≤ (k : Int) := by omega
      have q1 : (k : Int) < zs.length := by omega
      obtain ⟨v0, hv0⟩ : ∃ v, valN rs zs[k] = v := ⟨_, rfl⟩
      obtain ⟨v1, hv1⟩ : ∃ v, valN ss zs[k] = v := ⟨_, rfl⟩
      obtain ⟨v2, hv2⟩ : ∃ v, valN ts zs[k] = v := ⟨_, rfl⟩
      have HV := hid (show mergeV rs ss ts zs[k] = if v1 = v0 then v2 else v1 by unfold mergeV; rw [hv0, hv1, hv2])
      have V0 := hid hv0
      have V1 := hid hv1
      have V2 := hid hv2
      clear hv0 hv1 hv2
      obtain ⟨ml, hm⟩ : ∃ ml, ml = mergeK rs ss ts zs k := ⟨_, rfl⟩
      have HM := hid hm
      rw [← hm] at hml HO
      rw [← hm]
      clear hm
      by_cases e1 : v1 = v0
      · have eb : (v1 == v0) = true := by rw [beq_iff_eq]; exact e1
        have HVV := hid (show mergeV rs ss ts zs[k] = v2 by rw [HV.out]; first | rw [if_pos e1] | rw [if_neg e1])
        by_cases hge : 0 ≤ v2
        · have HE2 := hid (show mergeK rs ss ts zs (k + 1) = ml ++ [⟨tB zs[k], v2⟩] by rw [HM.out]; exact mergeK_yes hkl HVV.out hge)
          go_wp2_with (first | (at_builtin; refine wpList_app2 (w0 := w) rfl (.tmp 54) (.tmp 58) 24 rfl w.heap.size 95 (.agg #[.string ⟨#[]⟩, .int .i64 0]) 2 24 Try.underlying24 infoSetting rfl (by decide) _ _ _ rfl (own_below HO.out B10.out) #[.string (tB zs[k]), .int .i64 v2] 1 1 (by simp [Act.eval]) rfl (by simp [Value.oneCell']) (by omega) X10.out.size X10.out ?_; intro v9 w11 hown9 hbel9 hg9 hb9; have K9 := hid (two_kept (own_below HN.out B10.out) (fun e => hne (by injection e)) hg9 hb9); have O9 := hid hown9; have B11 := hid hbel9; clear hown9 hbel9 hg9 hb9) | (go_at_call 68; refine (value_bel A2 c2 ts zs[k] _ (HA2.out.below X9.out) T2.out.1 l2 v2 V2.out).mono ?_; rintro e w10 ⟨rfl, hb⟩; have B10 := hid (below_trans B9.out hb); have X10 := hid (below_trans X9.out hb); clear hb) | (go_at_call 68; refine (value_bel A0 c0 rs zs[k] _ (HA0.out.below X8.out) T0.out.1 l0 v0 V0.out).mono ?_; rintro e w9 ⟨rfl, hb⟩; have B9 := hid (below_trans B8.out hb); have X9 := hid (below_trans X8.out hb); clear hb) | (go_at_call 68; refine (value_bel A1 c1 ss zs[k] _ (HA1.out.below HB.out) T1.out.1 l1 v1 V1.out).mono ?_; rintro e w8 ⟨rfl, hb⟩; have B8 := hid hb; have X8 := hid (below_trans HB.out hb); clear hb))
          obtain ⟨g12, c12, hv12, _⟩ := own_form O9.out (by omega)
          subst hv12
          go_roundw
          case rel =>
            refine ⟨k + 1, g12, c12, by omega, by go_num, by rw [HE2.out, List.length_append]; first | done | rfl, ?_, K9.out.1, fun e => K9.out.2 (by rw [e]; rfl), B11.out⟩
            rw [HE2.out, List.length_append, List.map_append, List.flatten_append]
            exact O9.out
          case measure => simp [intOf]; omega
        · have HE2 := hid (show mergeK rs ss ts zs (k + 1) = ml by rw [HM.out]; exact mergeK_no hkl (by rw [HVV.out]; omega))
          go_wp2_with (first | (go_at_call 68; refine (value_bel A2 c2 ts zs[k] _ (HA2.out.below X9.out) T2.out.1 l2 v2 V2.out).mono ?_; rintro e w10 ⟨rfl, hb⟩; have B10 := hid (below_trans B9.out hb); have X10 := hid (below_trans X9.out hb); clear hb) | (go_at_call 68; refine (value_bel A0 c0 rs zs[k] _ (HA0.out.below X8.out) T0.out.1 l0 v0 V0.out).mono ?_; rintro e w9 ⟨rfl, hb⟩; have B9 := hid (below_trans B8.out hb); have X9 := hid (below_trans X8.out hb); clear hb) | (go_at_call 68; refine (value_bel A1 c1 ss zs[k] _ (HA1.out.below HB.out) T1.out.1 l1 v1 V1.out).mono ?_; rintro e w8 ⟨rfl, hb⟩; have B8 := hid hb; have X8 := hid (below_trans HB.out hb); clear hb))
          go_roundw
          case rel => exact ⟨k + 1, g, cc, by omega, by go_num, by rw [HE2.out], by rw [HE2.out]; exact own_below HO.out B10.out, own_below HN.out B10.out, hne, X10.out⟩
          case measure => simp [intOf]; omega
      · have eb : (v1 == v0) = false := by rw [beq_eq_false_iff_ne]; exact e1
        have HVV := hid (show mergeV rs ss ts zs[k] = v1 by rw [HV.out]; first | rw [if_pos e1] | rw [if_neg e1])
        by_cases hge : 0 ≤ v1
        · have HE2 := hid (show mergeK rs ss ts zs (k + 1) = ml ++ [⟨tB zs[k], v1⟩] by rw [HM.out]; exact mergeK_yes hkl HVV.out hge)
          go_wp2_with (first | (at_builtin; refine wpList_app2 (w0 := w) rfl (.tmp 54) (.tmp 58) 24 rfl w.heap.size 95 (.agg #[.string ⟨#[]⟩, .int .i64 0]) 2 24 Try.underlying24 infoSetting rfl (by decide) _ _ _ rfl (own_below HO.out B9.out) #[.string (tB zs[k]), .int .i64 v1] 1 1 (by simp [Act.eval]) rfl (by simp [Value.oneCell']) (by omega) X9.out.size X9.out ?_; intro v9 w11 hown9 hbel9 hg9 hb9; have K9 := hid (two_kept (own_below HN.out B9.out) (fun e => hne (by injection e)) hg9 hb9); have O9 := hid hown9; have B11 := hid hbel9; clear hown9 hbel9 hg9 hb9) | (go_at_call 68; refine (value_bel A0 c0 rs zs[k] _ (HA0.out.below X8.out) T0.out.1 l0 v0 V0.out).mono ?_; rintro e w9 ⟨rfl, hb⟩; have B9 := hid (below_trans B8.out hb); have X9 := hid (below_trans X8.out hb); clear hb) | (go_at_call 68; refine (value_bel A1 c1 ss zs[k] _ (HA1.out.below HB.out) T1.out.1 l1 v1 V1.out).mono ?_; rintro e w8 ⟨rfl, hb⟩; have B8 := hid hb; have X8 := hid (below_trans HB.out hb); clear hb))
          obtain ⟨g12, c12, hv12, _⟩ := own_form O9.out (by omega)
          subst hv12
          go_roundw
          case rel =>
            refine ⟨k + 1, g12, c12, by omega, by go_num, by rw [HE2.out, List.length_append]; first | done | rfl, ?_, K9.out.1, fun e => K9.out.2 (by rw [e]; rfl), B11.out⟩
            rw [HE2.out, List.length_append, List.map_append, List.flatten_append]
            exact O9.out
          case measure => simp [intOf]; omega
        · have HE2 := hid (show mergeK rs ss ts zs (k + 1) = ml by rw [HM.out]; exact mergeK_no hkl (by rw [HVV.out]; omega))
          go_wp2_with (first | (go_at_call 68; refine (value_bel A0 c0 rs zs[k] _ (HA0.out.below X8.out) T0.out.1 l0 v0 V0.out).mono ?_; rintro e w9 ⟨rfl, hb⟩; have B9 := hid (below_trans B8.out hb); have X9 := hid (below_trans X8.out hb); clear hb) | (go_at_call 68; refine (value_bel A1 c1 ss zs[k] _ (HA1.out.below HB.out) T1.out.1 l1 v1 V1.out).mono ?_; rintro e w8 ⟨rfl, hb⟩; have B8 := hid hb; have X8 := hid (below_trans HB.out hb); clear hb))
          go_roundw
          case rel => exact ⟨k + 1, g, cc, by omega, by go_num, by rw [HE2.out], by rw [HE2.out]; exact own_below HO.out B9.out, own_below HN.out B9.out, hne, X9.out⟩
          case measure => simp [intOf]; omega
    · have hk2 : k = zs.length := by omega
      subst hk2
      obtain ⟨ml, hm⟩ : ∃ ml, ml = mergeK rs ss ts zs zs.length := ⟨_, rfl⟩
      have HM := hid (show mergeL rs ss ts = ml by rw [HL.out, hm])
      rw [← hm] at hml HO
      rw [← hm]
      clear hm
      by_cases h24 : 24 < ml.length
      · have HF := hid (show fMerge rs ss ts = ([], 5) by
          unfold fMerge
          rw [if_neg HE.out, if_neg (by rw [HC0.out]; simp), HM.out, if_pos h24])
        have d : decide ((ml.length : Int) ≤ 24) = false := decide_eq_false (by omega)
        go_wp2_with (go_at_call 69; refine (few_ok _ _ _).mono ?_; rintro e w' ⟨rfl, rfl⟩)
        go_ret2
        exact RetSettingC.nil HF.out HB.out
      · have HF := hid (show fMerge rs ss ts = (ml, 0) by
          unfold fMerge
          rw [if_neg HE.out, if_neg (by rw [HC0.out]; simp), HM.out, if_neg h24])
        have d : decide ((ml.length : Int) ≤ 24) = true := decide_eq_true (by omega)
        go_wp2_with (go_at_call 69; refine (few_ok _ _ _).mono ?_; rintro e w' ⟨rfl, rfl⟩)
        go_ret2
        exact RetSettingC.own HF.out rfl HO.out HB.out

end Go.Proofs.Ytjeklbhdngkngaa
