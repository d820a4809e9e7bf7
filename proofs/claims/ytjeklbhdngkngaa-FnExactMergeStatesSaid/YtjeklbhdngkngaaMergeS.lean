/- Merged states: the walk of the reference. -/
import Derived.Test.YtjeklbhdngkngaaMergeI
import Derived.Test.YtjeklbhdngkngaaKeepM
namespace Go.Proofs.Ytjeklbhdngkngaa
open Go.RowKit
set_option linter.unusedVariables false

attribute [-go_sem] Go.run_equalIn_agg
theorem get_pos {xs : List DSetting} {z : Str} (hx : StateTo xs xs.length) : (valN xs z < 0 ∧ getN xs z = noSet) ∨ (0 ≤ valN xs z ∧ getN xs z = ⟨tB z, valN xs z⟩ ∧ 0 < (tB z).size) := by
  rcases st_has (xs := xs) (z := z) with ⟨i, hi, hz, e1⟩ | h1
  · right
    have h0 := set_in (hx i hi hi).1
    have hn : xs[i].fName = tB z := by rw [← hz]; exact (tB_data _).symm
    have h2 := (nameB_iff.1 h0.1).1
    refine ⟨by unfold valN; rw [e1]; exact h0.2.1, ?_, by rw [← hn]; exact h2⟩
    unfold getN valN
    rw [e1]
    show xs[i] = ⟨tB z, xs[i].fValue⟩
    rw [← hn]
  · left
    exact ⟨by rw [valN_none h1]; omega, getN_none h1⟩
theorem mergeG {rs ss ts : List DSetting} {zs : List Str} {k : Nat} {G : DSetting} {v : Int} (h : k < zs.length) (hv : mergeV rs ss ts zs[k] = v) (hg : (v < 0 ∧ G = noSet) ∨ (0 ≤ v ∧ G = ⟨tB zs[k], v⟩ ∧ 0 < (tB zs[k]).size)) :
    (G.fName.size = 0 ∧ mergeK rs ss ts zs (k + 1) = mergeK rs ss ts zs k) ∨ (0 < G.fName.size ∧ mergeK rs ss ts zs (k + 1) = mergeK rs ss ts zs k ++ [G]) := by
  rcases hg with ⟨h1, h2⟩ | ⟨h1, h2, h3⟩
  · exact .inl ⟨by rw [h2]; rfl, mergeK_no h (by rw [hv]; exact h1)⟩
  · exact .inr ⟨by rw [h2]; exact h3, by rw [h2]; exact mergeK_yes h hv h1⟩

theorem l27Conf_gen (A0 : Option Addr) (c0 : Nat) (rs : List DSetting) (A1 : Option Addr) (c1 : Nat) (ss : List DSetting) (A2 : Option Addr) (c2 : Nat) (ts : List DSetting) (w : World) (hA0 : RowsAt w 2 A0 (rs.map DSetting.cells)) (hs0 : StateTo rs rs.length) (hn0 : rs.length ≤ 24) (hA1 : RowsAt w 2 A1 (ss.map DSetting.cells)) (hs1 : StateTo ss ss.length) (hn1 : ss.length ≤ 24) (hA2 : RowsAt w 2 A2 (ts.map DSetting.cells)) (hs2 : StateTo ts ts.length) (hn2 : ts.length ≤ 24) (n : Nat) (hn : n = (confN rs ss ts).length) :
    Calls Try.prog 125 #[.slice A0 rs.length c0, .slice A1 ss.length c1, .slice A2 ts.length c2] w fun e w' => (∃ g c', e = .returned (.slice (some ⟨g, 0, none⟩) n c')) ∧ Below w.heap.size w w' := by
  subst hn
  exact (l27Conflicts_ok A0 c0 rs A1 c1 ss A2 c2 ts w hA0 hs0 hn0 hA1 hs1 hn1 hA2 hs2 hn2).mono fun _ _ ⟨⟨g, c', he, _⟩, hb⟩ => ⟨⟨g, c', he⟩, hb⟩

set_option maxHeartbeats 3200000 in
set_option maxRecDepth 100000 in
theorem l27Merge_ok (A0 : Option Addr) (c0 : Nat) (rs : List DSetting) (A1 : Option Addr) (c1 : Nat) (ss : List DSetting) (A2 : Option Addr) (c2 : Nat) (ts : List DSetting) (w : World) (hA0 : RowsAt w 2 A0 (rs.map DSetting.cells)) (hs0 : StateTo rs rs.length) (hn0 : rs.length ≤ 24) (hA1 : RowsAt w 2 A1 (ss.map DSetting.cells)) (hs1 : StateTo ss ss.length) (hn1 : ss.length ≤ 24) (hA2 : RowsAt w 2 A2 (ts.map DSetting.cells)) (hs2 : StateTo ts ts.length) (hn2 : ts.length ≤ 24) (hT : (stateB rs && stateB ss && stateB ts) = true) :
    Calls Try.prog 63 #[.slice A0 rs.length c0, .slice A1 ss.length c1, .slice A2 ts.length c2] w (RetSettingC w (fMerge rs ss ts)) := by
  have HA0 := hid hA0
  have HA1 := hid hA1
  have HA2 := hid hA2
  have HS := hid (And.intro hs0 (And.intro hs1 hs2))
  have HT := hid (show ¬ ((stateB rs && stateB ss && stateB ts) = false) by rw [hT]; simp)
  clear hA0 hA1 hA2 hs0 hs1 hs2 hT
  have hcl := (confN_len hn0 hn1 hn2).1
  obtain ⟨cn, hcn⟩ : ∃ cn, cn = (confN rs ss ts).length := ⟨_, rfl⟩
  have HCN := hid hcn
  clear hcn
  by_cases hc0 : 0 < cn
  · have HF := hid (show fMerge rs ss ts = ([], 6) by
      unfold fMerge
      rw [if_neg HT.out, if_pos (by intro e; have := HCN.out; rw [e] at this; simp at this; omega)])
    go_enter Try.func63, Try.ntmps63
    go_wp2_with (go_at_call 125; refine (l27Conf_gen A0 c0 rs A1 c1 ss A2 c2 ts _ HA0.out HS.out.1 hn0 HA1.out HS.out.2.1 hn1 HA2.out HS.out.2.2 hn2 cn HCN.out).mono ?_; rintro e w4 ⟨⟨g4, c4, rfl⟩, hb⟩; have B4 := hid hb; clear hb)
    go_ret2
    exact RetSettingC.nil HF.out B4.out
  have hc1 : cn = 0 := by omega
  have HC0 := hid (show confN rs ss ts = [] from List.eq_nil_of_length_eq_zero (by rw [← HCN.out]; exact hc1))
  clear hc1
  have HL := hid (mergeL_three (rs := rs) (ss := ss) (ts := ts))
  go_enter Try.func63, Try.ntmps63
  go_wp2_with (go_at_call 125; refine (l27Conf_gen A0 c0 rs A1 c1 ss A2 c2 ts _ HA0.out HS.out.1 hn0 HA1.out HS.out.2.1 hn1 HA2.out HS.out.2.2 hn2 cn HCN.out).mono ?_; rintro e w4 ⟨⟨g4, c4, rfl⟩, hb⟩; have B4 := hid hb; clear hb)
  refine (l27Names_ok A0 c0 rs A1 c1 ss A2 c2 ts _ (HA0.out.below B4.out) hn0 (HA1.out.below B4.out) hn1 (HA2.out.below B4.out) hn2).mono ?_
  rintro e w7 ⟨⟨gn, kn, rfl, ho⟩, hb⟩
  obtain ⟨zs, hzs⟩ : ∃ zs, zs = setOf (allsN [rs, ss, ts] 3) := ⟨_, rfl⟩
  rw [← hzs] at ho hcl HL
  rw [← hzs]
  clear hzs
  have hgn := (own_cap ho).2.2.2
  have hz4 := B4.out.size
  have NO := hid (own_mono ho hz4)
  have B7 := hid (below_trans B4.out hb)
  clear ho hb
  go_wp2_with fail
  go_loopw [9, 10] (fun v m wr => ∃ (k g cc : Nat), k ≤ zs.length ∧ m = .int .i64 k ∧ v = .slice (some ⟨g, 0, none⟩) (mergeK rs ss ts zs k).length cc ∧ wr.ownsRow w.heap.size 95 2 (.slice (some ⟨g, 0, none⟩) (mergeK rs ss ts zs k).length cc) (mergeK rs ss ts zs k).length ((mergeK rs ss ts zs k).map DSetting.cells).flatten ∧ wr.ownsRow w.heap.size 9 1 (.slice (some ⟨gn, 0, none⟩) zs.length kn) zs.length (zs.map vS) ∧ gn ≠ g ∧ Below w.heap.size w wr) (fun _ m _ => zs.length - (intOf m).toNat)
  case atStart => exact ⟨0, w7.heap.size, 0, Nat.zero_le _, rfl, rfl, own_mono (World.ownsRow_lit w7 #[] 0 (Nat.le_refl _) (by unfold maxLen; omega) rfl) B7.out.size, NO.out.alloc _, by omega, B7.out.alloc B7.out.size _⟩
  case round =>
    obtain ⟨k, g, cc, hk, rfl, rfl, hown, hownn, hne, hbel⟩ := hrel
    have HO := hid hown
    have HN := hid hownn
    have HB := hid hbel
    have hml := mergeK_len (rs := rs) (ss := ss) (ts := ts) (zs := zs) k
    have hgn2 := (own_cap hownn).2.2.2
    clear hown hownn hbel hgn
    by_cases hkl : k < zs.length
    · have hcN : wr.cell? ⟨gn, k, none⟩ = some (.string (tB zs[k])) := by
        rw [HN.out.cellAt k (by omega), List.getElem?_map, List.getElem?_eq_getElem hkl]
        rfl
      have q0 : (0 : Int) ≤ (k : Int) := by omega
      have q1 : (k : Int) < zs.length := by omega
      obtain ⟨v0, hv0⟩ : ∃ v, valN rs zs[k] = v := ⟨_, rfl⟩
      obtain ⟨v1, hv1⟩ : ∃ v, valN ss zs[k] = v := ⟨_, rfl⟩
      obtain ⟨v2, hv2⟩ : ∃ v, valN ts zs[k] = v := ⟨_, rfl⟩
      obtain ⟨G0, hG0⟩ : ∃ G, G = getN rs zs[k] := ⟨_, rfl⟩
      obtain ⟨G1, hG1⟩ : ∃ G, G = getN ss zs[k] := ⟨_, rfl⟩
      obtain ⟨G2, hG2⟩ : ∃ G, G = getN ts zs[k] := ⟨_, rfl⟩
      have P1 := get_pos (z := zs[k]) HS.out.2.1
      have P2 := get_pos (z := zs[k]) HS.out.2.2
      have HV := hid (show mergeV rs ss ts zs[k] = if v1 = v0 then v2 else v1 by unfold mergeV; rw [hv0, hv1, hv2])
      have HQ := hid (show eqF G1.fName G0.fName G1.fValue G0.fValue = (v1 == v0) by rw [hG0, hG1, eqF_get HS.out.2.1 HS.out.1, hv0, hv1])
      rw [hv1, ← hG1] at P1
      rw [hv2, ← hG2] at P2
      have HP1 := hid P1
      have HP2 := hid P2
      have HG0 := hid hG0
      have HG1 := hid hG1
      have HG2 := hid hG2
      clear hv0 hv1 hv2 hG0 hG1 hG2 P1 P2
      obtain ⟨ml, hm⟩ : ∃ ml, ml = mergeK rs ss ts zs k := ⟨_, rfl⟩
      have HM := hid hm
      rw [← hm] at hml HO
      rw [← hm]
      clear hm
      have HMG1 := hid (fun h => mergeG (rs := rs) (ss := ss) (ts := ts) (G := G1) (v := v1) hkl h HP1.out)
      have HMG2 := hid (fun h => mergeG (rs := rs) (ss := ss) (ts := ts) (G := G2) (v := v2) hkl h HP2.out)
      rw [← HM.out] at HMG1 HMG2
      cases d1 : eqF G1.fName G0.fName G1.fValue G0.fValue
      · have HVV := hid (show mergeV rs ss ts zs[k] = v1 by
          have h := HQ.out
          rw [d1] at h
          rw [HV.out, if_neg (by intro e; rw [e] at h; simp at h)])
        go_wp2_with (go_at_call 127; refine (l27Get_gen A1 c1 ss zs[k] G1 wr (HA1.out.below HB.out) (by omega) HG1.out).mono ?_; rintro e w2 ⟨rfl, hb⟩; have D2 := hid (below_trans hb (below_alloc w2 (.cells #[.string G1.fName, .int .i64 G1.fValue] 95))); have X2 := HasC.new w2 [.string G1.fName, .int .i64 G1.fValue] 95; have x0 := X2.2 0 _ rfl; have x1 := X2.2 1 _ rfl; have L2 := hid (World.ownsRow_lit (e := 95) (size := 2) w2 #[.string G1.fName, .int .i64 G1.fValue] 1 (Nat.le_refl _) (by unfold maxLen; omega) rfl); have hz2 := hb.size; have y2 := (D2.out.cell (p := ⟨gn, k, none⟩) hgn2).trans hcN; clear hb X2)
        obtain ⟨w3, hw3⟩ : ∃ w3, w3 = w2.alloc (.cells #[.string G1.fName, .int .i64 G1.fValue] 95) := ⟨_, rfl⟩
        have hz3 : w3.heap.size = w2.heap.size + 1 := by rw [hw3]; simp
        have hl2 : w2.heap.size < w3.heap.size := by omega
        have hl3 : gn < w3.heap.size := by omega
        have hz3' := hid hz3
        clear hz3
        rw [← hw3] at D2 x0 x1 L2 y2
        rw [← hw3]
        clear hw3
        have R3 := hid (HA0.out.below (below_trans HB.out D2.out))
        go_region_held3 (fun w' => (True ∧ Below w3.heap.size w3 w') ∧ w'.cell? ⟨w2.heap.size, 0, none⟩ = some (.string G1.fName) ∧ w'.cell? ⟨w2.heap.size, 1, none⟩ = some (.int .i64 G1.fValue) ∧ w'.cell? ⟨gn, k, none⟩ = some (.string (tB zs[k])))
          (first | exact ⟨⟨trivial, (Below.refl _ _).drew⟩, x0, x1, y2⟩ | exact keepM3 hl2 hl2 hl3 ‹_ ∧ _› ‹Below _ _ _›)
          ((go_at_call 127; refine (l27Get_gen A0 c0 rs zs[k] G0 _ (R3.out.below (And.right (And.left ‹(True ∧ _) ∧ _›))) (by omega) HG0.out).mono ?_; rintro e wz ⟨rfl, hbz⟩))
        obtain ⟨⟨_, hB⟩, z0, z1, z2⟩ := ‹(_ ∧ Below _ _ _) ∧ _›
        have D4 := hid (below_trans D2.out hB)
        have L4 := hid (own_below L2.out hB)
        have hz4b := hB.size
        have h5 := z0
        clear x0 x1 y2 hB h5
        have hmg := HMG1.out HVV.out
        rcases hmg with ⟨hs0, hmk⟩ | ⟨hs0, hmk⟩
        · have e1 := toList_nil hs0
          have HE2 := hid hmk
          clear hmk hs0
          go_wp2_with fail
          go_roundw
          case rel => exact ⟨k + 1, g, cc, by omega, by go_num, by rw [HE2.out], by rw [HE2.out]; exact own_below HO.out D4.out, own_below HN.out D4.out, hne, below_up HB.out HB.out.size D4.out⟩
          case measure => simp [intOf]; omega
        · have e1 := isEmpty_ne hs0
          have e2 := toList_ne hs0
          have HE2 := hid hmk
          clear hmk hs0
          go_wp2_with (at_builtin; refine wpList_app2 (w0 := w) rfl (.tmp 52) (.tmp 54) 24 rfl w.heap.size 95 (.agg #[.string ⟨#[]⟩, .int .i64 0]) 2 24 Try.underlying24 infoSetting rfl (by decide) _ _ _ rfl (own_below HO.out D4.out) #[.string G1.fName, .int .i64 G1.fValue] 1 1 (by first | (simp [Act.eval]; done) | (simp [Act.eval, setCells]; done)) rfl (by simp [Value.oneCell']) (by omega) (below_up HB.out HB.out.size D4.out).size (below_up HB.out HB.out.size D4.out) ?_; intro v9 w11 hown9 hbel9 hg9 hb9; have K9 := hid (two_kept (own_below HN.out D4.out) (fun e => hne (by injection e)) hg9 hb9); have O9 := hid hown9; have B11 := hid hbel9; clear hown9 hbel9 hg9 hb9)
          obtain ⟨g12, c12, hv12, _⟩ := own_form O9.out (by omega)
          subst hv12
          go_roundw
          case rel =>
            refine ⟨k + 1, g12, c12, by omega, by go_num, by rw [HE2.out, List.length_append]; first | done | rfl, ?_, K9.out.1, fun e => K9.out.2 (by rw [e]; rfl), B11.out⟩
            rw [HE2.out, List.length_append, List.map_append, List.flatten_append]
            exact O9.out
          case measure => simp [intOf]; omega
      · have HVV := hid (show mergeV rs ss ts zs[k] = v2 by
          have h := HQ.out
          rw [d1] at h
          rw [HV.out, if_pos (by simpa using h.symm)])
        go_wp2_with (go_at_call 127; refine (l27Get_gen A1 c1 ss zs[k] G1 wr (HA1.out.below HB.out) (by omega) HG1.out).mono ?_; rintro e w2 ⟨rfl, hb⟩; have D2 := hid (below_trans hb (below_alloc w2 (.cells #[.string G1.fName, .int .i64 G1.fValue] 95))); have X2 := HasC.new w2 [.string G1.fName, .int .i64 G1.fValue] 95; have x0 := X2.2 0 _ rfl; have x1 := X2.2 1 _ rfl; have L2 := hid (World.ownsRow_lit (e := 95) (size := 2) w2 #[.string G1.fName, .int .i64 G1.fValue] 1 (Nat.le_refl _) (by unfold maxLen; omega) rfl); have hz2 := hb.size; have y2 := (D2.out.cell (p := ⟨gn, k, none⟩) hgn2).trans hcN; clear hb X2)
        obtain ⟨w3, hw3⟩ : ∃ w3, w3 = w2.alloc (.cells #[.string G1.fName, .int .i64 G1.fValue] 95) := ⟨_, rfl⟩
        have hz3 : w3.heap.size = w2.heap.size + 1 := by rw [hw3]; simp
        have hl2 : w2.heap.size < w3.heap.size := by omega
        have hl3 : gn < w3.heap.size := by omega
        have hz3' := hid hz3
        clear hz3
        rw [← hw3] at D2 x0 x1 L2 y2
        rw [← hw3]
        clear hw3
        have R3 := hid (HA0.out.below (below_trans HB.out D2.out))
        go_region_held3 (fun w' => (True ∧ Below w3.heap.size w3 w') ∧ w'.cell? ⟨w2.heap.size, 0, none⟩ = some (.string G1.fName) ∧ w'.cell? ⟨w2.heap.size, 1, none⟩ = some (.int .i64 G1.fValue) ∧ w'.cell? ⟨gn, k, none⟩ = some (.string (tB zs[k])))
          (first | exact ⟨⟨trivial, (Below.refl _ _).drew⟩, x0, x1, y2⟩ | exact keepM3 hl2 hl2 hl3 ‹_ ∧ _› ‹Below _ _ _›)
          ((go_at_call 127; refine (l27Get_gen A0 c0 rs zs[k] G0 _ (R3.out.below (And.right (And.left ‹(True ∧ _) ∧ _›))) (by omega) HG0.out).mono ?_; rintro e wz ⟨rfl, hbz⟩))
        obtain ⟨⟨_, hB⟩, z0, z1, z2⟩ := ‹(_ ∧ Below _ _ _) ∧ _›
        have D4 := hid (below_trans D2.out hB)
        have L4 := hid (own_below L2.out hB)
        have hz4b := hB.size
        have h5 := z0
        clear x0 x1 y2 hB h5
        have f0 := L4.out.frozenAt 0
        have f1 := L4.out.frozenAt 1
        have hmg := HMG2.out HVV.out
        rcases hmg with ⟨hs0, hmk⟩ | ⟨hs0, hmk⟩
        · have e1 := toList_nil hs0
          have HE2 := hid hmk
          clear hmk hs0
          go_wp2_with (go_at_call 127; refine (l27Get_gen A2 c2 ts zs[k] G2 _ (HA2.out.below (below_trans HB.out D4.out)) (by omega) HG2.out).mono ?_; rintro e w6 ⟨rfl, hb⟩; have L6 := hid (own_below L4.out hb); have D6 := hid (below_trans D4.out hb); have k0 := L6.out.cellAt 0 (by omega); have k1 := L6.out.cellAt 1 (by omega); have f60 := L6.out.frozenAt 0; have f61 := L6.out.frozenAt 1; simp only [List.getElem?_cons_zero, List.getElem?_cons_succ] at k0 k1; clear hb z0 z1 z2 f0 f1; have L7 := hid (own_setCells [.string G2.fName, .int .i64 G2.fValue] (p := 0) L6.out); have D7 := hid (show Below wr.heap.size wr (setCells w6 w2.heap.size 0 [.string G2.fName, .int .i64 G2.fValue]) from below_setCells (by omega) _ D6.out); have z0 := L7.out.cellAt 0 (by omega); have z1 := L7.out.cellAt 1 (by omega); simp only [setSeg, setCells, List.set_cons_zero, List.set_cons_succ, List.getElem?_cons_zero, List.getElem?_cons_succ] at z0 z1)
          go_roundw
          case rel => exact ⟨k + 1, g, cc, by omega, by go_num, by rw [HE2.out], by rw [HE2.out]; exact own_below HO.out D7.out, own_below HN.out D7.out, hne, below_up HB.out HB.out.size D7.out⟩
          case measure => simp [intOf]; omega
        · have e1 := isEmpty_ne hs0
          have e2 := toList_ne hs0
          have HE2 := hid hmk
          clear hmk hs0
          go_wp2_with (first | (at_builtin; refine wpList_app2 (w0 := w) rfl (.tmp 52) (.tmp 54) 24 rfl w.heap.size 95 (.agg #[.string ⟨#[]⟩, .int .i64 0]) 2 24 Try.underlying24 infoSetting rfl (by decide) _ _ _ rfl (own_below HO.out D7.out) #[.string G2.fName, .int .i64 G2.fValue] 1 1 (by first | (simp [Act.eval]; done) | (simp [Act.eval, setCells]; done)) rfl (by simp [Value.oneCell']) (by omega) (below_up HB.out HB.out.size D7.out).size (below_up HB.out HB.out.size D7.out) ?_; intro v9 w11 hown9 hbel9 hg9 hb9; have K9 := hid (two_kept (own_below HN.out D7.out) (fun e => hne (by injection e)) hg9 hb9); have O9 := hid hown9; have B11 := hid hbel9; clear hown9 hbel9 hg9 hb9) | (go_at_call 127; refine (l27Get_gen A2 c2 ts zs[k] G2 _ (HA2.out.below (below_trans HB.out D4.out)) (by omega) HG2.out).mono ?_; rintro e w6 ⟨rfl, hb⟩; have L6 := hid (own_below L4.out hb); have D6 := hid (below_trans D4.out hb); have k0 := L6.out.cellAt 0 (by omega); have k1 := L6.out.cellAt 1 (by omega); have f60 := L6.out.frozenAt 0; have f61 := L6.out.frozenAt 1; simp only [List.getElem?_cons_zero, List.getElem?_cons_succ] at k0 k1; clear hb z0 z1 z2 f0 f1; have L7 := hid (own_setCells [.string G2.fName, .int .i64 G2.fValue] (p := 0) L6.out); have D7 := hid (show Below wr.heap.size wr (setCells w6 w2.heap.size 0 [.string G2.fName, .int .i64 G2.fValue]) from below_setCells (by omega) _ D6.out); have z0 := L7.out.cellAt 0 (by omega); have z1 := L7.out.cellAt 1 (by omega); simp only [setSeg, setCells, List.set_cons_zero, List.set_cons_succ, List.getElem?_cons_zero, List.getElem?_cons_succ] at z0 z1))
          obtain ⟨g12, c12, hv12, _⟩ := own_form O9.out (by omega)
          subst hv12
          go_roundw
          case rel =>
            refine ⟨k + 1, g12, c12, by omega, by go_num, by rw [HE2.out, List.length_append]; first | done | rfl, ?_, K9.out.1, fun e => K9.out.2 (by rw [e]; rfl), B11.out⟩
            rw [HE2.out, List.length_append, List.map_append, List.flatten_append]
            exact O9.out
          case measure => simp [intOf]; omega
    · have hk2 : k = zs.length := by omega
      subst hk2
      obtain ⟨ml, hm⟩ : ∃ ml, ml = mergeK rs ss ts zs zs.length := ⟨_, rfl⟩
      have HM := hid (show mergeL rs ss ts = ml by rw [← HL.out, hm])
      rw [← hm] at hml HO
      rw [← hm]
      clear hm
      by_cases h24 : 24 < ml.length
      · have HF := hid (show fMerge rs ss ts = ([], 5) by
          unfold fMerge
          rw [if_neg HT.out, if_neg (by rw [HC0.out]; simp), HM.out, if_pos h24])
        go_wp2_with fail
        go_ret2
        exact RetSettingC.nil HF.out HB.out
      · have HF := hid (show fMerge rs ss ts = (ml, 0) by
          unfold fMerge
          rw [if_neg HT.out, if_neg (by rw [HC0.out]; simp), HM.out, if_neg h24])
        go_wp2_with fail
        go_ret2
        exact RetSettingC.own HF.out rfl HO.out HB.out

set_option maxHeartbeats 3200000 in
set_option maxRecDepth 100000 in
theorem specMerge_ok (A0 : Option Addr) (c0 : Nat) (rs : List DSetting) (A1 : Option Addr) (c1 : Nat) (ss : List DSetting) (A2 : Option Addr) (c2 : Nat) (ts : List DSetting) (w : World) (hA0 : RowsAt w 2 A0 (rs.map DSetting.cells)) (hk0 : ∀ x ∈ rs, x.ok) (hn0 : rs.length ≤ 1048576) (hA1 : RowsAt w 2 A1 (ss.map DSetting.cells)) (hk1 : ∀ x ∈ ss, x.ok) (hn1 : ss.length ≤ 1048576) (hA2 : RowsAt w 2 A2 (ts.map DSetting.cells)) (hk2 : ∀ x ∈ ts, x.ok) (hn2 : ts.length ≤ 1048576) :
    Calls Try.prog 11 #[.slice A0 rs.length c0, .slice A1 ss.length c1, .slice A2 ts.length c2] w (RetSettingC w (fMerge rs ss ts)) := by
  have HA0 := hid hA0
  have HK0 := hid hk0
  have HA1 := hid hA1
  have HK1 := hid hk1
  have HA2 := hid hA2
  have HK2 := hid hk2
  clear hA0 hA1 hA2 hk0 hk1 hk2
  cases e0 : stateB rs
  · have HF := hid (show fMerge rs ss ts = ([], 1) by unfold fMerge; rw [if_pos (by rw [e0]; simp)])
    go_enter Try.func11, Try.ntmps11
    go_wp2_with (first | (go_at_call 62; refine (l27State_ok A0 c0 rs _ HA0.out HK0.out hn0).mono ?_; rintro e w1 ⟨rfl, hb⟩; have B1 := hid hb; clear hb))
    go_ret2
    exact RetSettingC.nil HF.out B1.out
  cases e1 : stateB ss
  · have HF := hid (show fMerge rs ss ts = ([], 1) by unfold fMerge; rw [if_pos (by rw [e0, e1]; simp)])
    go_enter Try.func11, Try.ntmps11
    go_wp2_with (first | (go_at_call 62; refine (l27State_ok A1 c1 ss _ (HA1.out.below B1.out) HK1.out hn1).mono ?_; rintro e w2 ⟨rfl, hb⟩; have B2 := hid (below_trans B1.out hb); clear hb) | (go_at_call 62; refine (l27State_ok A0 c0 rs _ HA0.out HK0.out hn0).mono ?_; rintro e w1 ⟨rfl, hb⟩; have B1 := hid hb; clear hb))
    go_ret2
    exact RetSettingC.nil HF.out B2.out
  cases e2 : stateB ts
  · have HF := hid (show fMerge rs ss ts = ([], 1) by unfold fMerge; rw [if_pos (by rw [e0, e1, e2]; simp)])
    go_enter Try.func11, Try.ntmps11
    go_wp2_with (first | (go_at_call 62; refine (l27State_ok A2 c2 ts _ (HA2.out.below B2.out) HK2.out hn2).mono ?_; rintro e w3 ⟨rfl, hb⟩; have B3 := hid (below_trans B2.out hb); clear hb) | (go_at_call 62; refine (l27State_ok A1 c1 ss _ (HA1.out.below B1.out) HK1.out hn1).mono ?_; rintro e w2 ⟨rfl, hb⟩; have B2 := hid (below_trans B1.out hb); clear hb) | (go_at_call 62; refine (l27State_ok A0 c0 rs _ HA0.out HK0.out hn0).mono ?_; rintro e w1 ⟨rfl, hb⟩; have B1 := hid hb; clear hb))
    go_ret2
    exact RetSettingC.nil HF.out B3.out
  have HE := hid (show ¬ ((stateB rs && stateB ss && stateB ts) = false) by rw [e0, e1, e2]; simp)
  have t0 := stateB_iff.1 e0
  have t1 := stateB_iff.1 e1
  have t2 := stateB_iff.1 e2
  have T0 := hid t0
  have T1 := hid t1
  have T2 := hid t2
  have l0 := t0.2
  have l1 := t1.2
  have l2 := t2.2
  clear t0 t1 t2
  go_enter Try.func11, Try.ntmps11
  go_wp2_with (first | (go_at_call 62; refine (l27State_ok A2 c2 ts _ (HA2.out.below B2.out) HK2.out hn2).mono ?_; rintro e w3 ⟨rfl, hb⟩; have B3 := hid (below_trans B2.out hb); clear hb) | (go_at_call 62; refine (l27State_ok A1 c1 ss _ (HA1.out.below B1.out) HK1.out hn1).mono ?_; rintro e w2 ⟨rfl, hb⟩; have B2 := hid (below_trans B1.out hb); clear hb) | (go_at_call 62; refine (l27State_ok A0 c0 rs _ HA0.out HK0.out hn0).mono ?_; rintro e w1 ⟨rfl, hb⟩; have B1 := hid hb; clear hb))
  refine (l27Merge_ok A0 c0 rs A1 c1 ss A2 c2 ts _ (HA0.out.below B3.out) T0.out.1 l0 (HA1.out.below B3.out) T1.out.1 l1 (HA2.out.below B3.out) T2.out.1 l2 (by rw [e0, e1, e2]; rfl)).mono ?_
  rintro e w9 ⟨A9, c9, rfl, ho, hno, hb⟩
  go_wp2_with fail
  go_ret2
  exact ⟨A9, c9, rfl, own_mono ho B3.out.size, hno, below_trans B3.out hb⟩
theorem fMerge_small (rs ss ts : List DSetting) : (fMerge rs ss ts).1.length ≤ 24 := by
  unfold fMerge
  split
  · simp
  · split
    · simp
    · split
      · simp
      · rename_i h
        exact Nat.le_of_not_lt h

end Go.Proofs.Ytjeklbhdngkngaa
