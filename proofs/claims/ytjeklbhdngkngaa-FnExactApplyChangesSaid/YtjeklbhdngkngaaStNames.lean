/- States: the reference's l27Names. -/
import Derived.Test.YtjeklbhdngkngaaStSet
namespace Go.Proofs.Ytjeklbhdngkngaa
open Go.RowKit
set_option linter.unusedVariables false

def stIns (zs : List DSetting) : List DSetting := zs.foldl setS []
theorem stIns_snoc (zs : List DSetting) (x : DSetting) : stIns (zs ++ [x]) = setS (stIns zs) x := by simp [stIns]
theorem stIns_from : ∀ (zs : List DSetting) {l : List DSetting}, Up (l.map stn) → (zs.foldl setS l).map stn = (zs.map stn).foldl putS (l.map stn)
  | [], _, _ => rfl
  | z :: zs, l, h => by
    have h1 := setS_names (e := z) h
    have h2 : Up ((setS l z).map stn) := by rw [h1]; exact putS_up _ h
    simp only [List.foldl_cons, List.map_cons]
    rw [stIns_from zs h2, h1]
theorem stIns_names (zs : List DSetting) : (stIns zs).map stn = setOf (zs.map stn) := stIns_from zs up_nil
theorem stIns_len (zs : List DSetting) : (stIns zs).length ≤ zs.length := by
  have h := setOf_len (zs.map stn)
  rw [← stIns_names, List.length_map, List.length_map] at h
  exact h
theorem names_take (l : List DSetting) : ∀ k, k ≤ l.length → namesN (stN l) k = (l.take k).map stn
  | 0, _ => rfl
  | k + 1, hk => by
    rw [namesN, names_take l k (by omega), stN_at (by omega), List.take_succ_eq_append_getElem (by omega), List.map_append]
    rfl
theorem allN_map (l : List DSetting) : allN l = l.map stn := by rw [allN, names_take l _ (Nat.le_refl _), List.take_length]
theorem alls_map (rs ss ts : List DSetting) : allsN [rs, ss, ts] 3 = (rs ++ ss ++ ts).map stn := by
  show ([] ++ allN rs) ++ allN ss ++ allN ts = _
  rw [allN_map, allN_map, allN_map, List.map_append, List.map_append, List.nil_append]
theorem stIns_next {P xs : List DSetting} {k : Nat} (h : k < xs.length) : setS (stIns (P ++ xs.take k)) xs[k] = stIns (P ++ xs.take (k + 1)) := by
  rw [List.take_succ_eq_append_getElem h, ← List.append_assoc, stIns_snoc]

set_option maxHeartbeats 3200000 in
set_option maxRecDepth 100000 in
theorem l27Names_ok (A0 : Option Addr) (c0 : Nat) (rs : List DSetting) (A1 : Option Addr) (c1 : Nat) (ss : List DSetting) (A2 : Option Addr) (c2 : Nat) (ts : List DSetting) (w : World) (hA0 : RowsAt w 2 A0 (rs.map DSetting.cells)) (hn0 : rs.length ≤ 24) (hA1 : RowsAt w 2 A1 (ss.map DSetting.cells)) (hn1 : ss.length ≤ 24) (hA2 : RowsAt w 2 A2 (ts.map DSetting.cells)) (hn2 : ts.length ≤ 24) :
    Calls Try.prog 126 #[.slice A0 rs.length c0, .slice A1 ss.length c1, .slice A2 ts.length c2] w fun e w' => (∃ g c', e = .returned (.slice (some ⟨g, 0, none⟩) (setOf (allsN [rs, ss, ts] 3)).length c') ∧ w'.ownsRow w.heap.size 9 1 (.slice (some ⟨g, 0, none⟩) (setOf (allsN [rs, ss, ts] 3)).length c') (setOf (allsN [rs, ss, ts] 3)).length ((setOf (allsN [rs, ss, ts] 3)).map vS)) ∧ Below w.heap.size w w' := by
  have HA0 := hid hA0
  have HA1 := hid hA1
  have HA2 := hid hA2
  clear hA0 hA1 hA2
  go_enter Try.func126, Try.ntmps126
  go_wp2_with fail
  go_loopw [7, 8] (fun v m wr => ∃ (k g cc : Nat), k ≤ rs.length ∧ m = .int .i64 k ∧ v = .slice (some ⟨g, 0, none⟩) (stIns (([] : List DSetting) ++ rs.take k)).length cc ∧ wr.ownsRow w.heap.size 95 2 (.slice (some ⟨g, 0, none⟩) (stIns (([] : List DSetting) ++ rs.take k)).length cc) (stIns (([] : List DSetting) ++ rs.take k)).length ((stIns (([] : List DSetting) ++ rs.take k)).map DSetting.cells).flatten ∧ Below w.heap.size w wr) (fun _ m _ => rs.length - (intOf m).toNat)
  case atStart => exact ⟨0, _, _, Nat.zero_le _, rfl, rfl, World.ownsRow_lit _ _ 0 (Nat.le_refl _) (by unfold maxLen; omega) rfl, below_alloc _ _⟩
  case round =>
    obtain ⟨k, g, cc, hk, rfl, rfl, hown, hbel⟩ := hrel
    have HO := hid hown
    have HB := hid hbel
    have hsl := stIns_len (([] : List DSetting) ++ rs.take k)
    have hsl2 : (([] : List DSetting) ++ rs.take k).length ≤ 72 := by simp only [List.length_append, List.length_take, List.length_nil]; omega
    clear hown hbel
    by_cases hkl : k < rs.length
    · have hne : rs.map DSetting.cells ≠ [] := by intro e; rw [List.map_eq_nil_iff] at e; rw [e] at hkl; exact absurd hkl (by simp)
      obtain ⟨b, o, rfl, hlt, hc⟩ := (HA0.out.below HB.out) hne
      have HC := hid hc
      have hc0 : wr.cell? ⟨b, o + k * 2, none⟩ = some (.string rs[k].fName) := HC.out k _ (by rw [List.getElem?_map, List.getElem?_eq_getElem hkl]; rfl) 0 _ rfl
      have hc1 : wr.cell? ⟨b, o + k * 2 + 1, none⟩ = some (.int .i64 rs[k].fValue) := HC.out k _ (by rw [List.getElem?_map, List.getElem?_eq_getElem hkl]; rfl) 1 _ rfl
      have q0 : (0 : Int) ≤ (k : Int) := by omega
      have q1 : (k : Int) < rs.length := by omega
      clear hc hne
      have HE := hid (stIns_next (P := ([] : List DSetting)) hkl)
      have HR := hid (rows_own HO.out (by simp) (cellsSetting_len _))
      obtain ⟨zs, hzs⟩ : ∃ zs, zs = (stIns (([] : List DSetting) ++ rs.take k)) := ⟨_, rfl⟩
      rw [← hzs] at HO HE HR hsl
      rw [← hzs]
      clear hzs
      go_wp2_with (go_at_call 74; refine (l27Set_ok (some ⟨g, 0, none⟩) cc zs rs[k] _ HR.out (by omega)).mono ?_; rintro en w2 ⟨⟨g2, c2, rfl, ho⟩, hb⟩; have O2 := hid (own_mono ho HB.out.size); have B2 := hid (below_up HB.out HB.out.size hb); clear ho hb)
      go_roundw
      case rel => exact ⟨k + 1, g2, c2, by omega, by go_num, by rw [← HE.out], by rw [← HE.out]; exact O2.out, B2.out⟩
      case measure => simp [intOf]; omega
    · have hk2 : k = rs.length := by omega
      subst hk2
      have HE9 := hid (show stIns rs = stIns (([] : List DSetting) ++ rs.take rs.length) by rw [List.take_length, List.nil_append])
      rw [← HE9.out] at HO
      rw [← HE9.out]
      go_wp2_with fail
      go_loopw [7, 9] (fun v m wr => ∃ (k g cc : Nat), k ≤ ss.length ∧ m = .int .i64 k ∧ v = .slice (some ⟨g, 0, none⟩) (stIns (rs ++ ss.take k)).length cc ∧ wr.ownsRow w.heap.size 95 2 (.slice (some ⟨g, 0, none⟩) (stIns (rs ++ ss.take k)).length cc) (stIns (rs ++ ss.take k)).length ((stIns (rs ++ ss.take k)).map DSetting.cells).flatten ∧ Below w.heap.size w wr) (fun _ m _ => ss.length - (intOf m).toNat)
      case atStart => exact ⟨0, g, cc, Nat.zero_le _, rfl, by rw [List.take_zero, List.append_nil], by rw [List.take_zero, List.append_nil]; exact HO.out, HB.out⟩
      case round =>
        obtain ⟨k, g, cc, hk, rfl, rfl, hown, hbel⟩ := hrel
        have HO := hid hown
        have HB := hid hbel
        have hsl := stIns_len (rs ++ ss.take k)
        have hsl2 : (rs ++ ss.take k).length ≤ 72 := by simp only [List.length_append, List.length_take]; omega
        clear hown hbel
        by_cases hkl : k < ss.length
        · have hne : ss.map DSetting.cells ≠ [] := by intro e; rw [List.map_eq_nil_iff] at e; rw [e] at hkl; exact absurd hkl (by simp)
          obtain ⟨b, o, rfl, hlt, hc⟩ := (HA1.out.below HB.out) hne
          have HC := hid hc
          have hc0 : wr.cell? ⟨b, o + k * 2, none⟩ = some (.string ss[k].fName) := HC.out k _ (by rw [List.getElem?_map, List.getElem?_eq_getElem hkl]; rfl) 0 _ rfl
          have hc1 : wr.cell? ⟨b, o + k * 2 + 1, none⟩ = some (.int .i64 ss[k].fValue) := HC.out k _ (by rw [List.getElem?_map, List.getElem?_eq_getElem hkl]; rfl) 1 _ rfl
          have q0 : (0 : Int) ≤ (k : Int) := by omega
          have q1 : (k : Int) < ss.length := by omega
          clear hc hne
          have HE := hid (stIns_next (P := rs) hkl)
          have HR := hid (rows_own HO.out (by simp) (cellsSetting_len _))
          obtain ⟨zs, hzs⟩ : ∃ zs, zs = (stIns (rs ++ ss.take k)) := ⟨_, rfl⟩
          rw [← hzs] at HO HE HR hsl
          rw [← hzs]
          clear hzs
          go_wp2_with (go_at_call 74; refine (l27Set_ok (some ⟨g, 0, none⟩) cc zs ss[k] _ HR.out (by omega)).mono ?_; rintro en w2 ⟨⟨g2, c2, rfl, ho⟩, hb⟩; have O2 := hid (own_mono ho HB.out.size); have B2 := hid (below_up HB.out HB.out.size hb); clear ho hb)
          go_roundw
          case rel => exact ⟨k + 1, g2, c2, by omega, by go_num, by rw [← HE.out], by rw [← HE.out]; exact O2.out, B2.out⟩
          case measure => simp [intOf]; omega
        · have hk2 : k = ss.length := by omega
          subst hk2
          have HE9 := hid (show stIns (rs ++ ss) = stIns (rs ++ ss.take ss.length) by rw [List.take_length])
          rw [← HE9.out] at HO
          rw [← HE9.out]
          go_wp2_with fail
          go_loopw [7, 10] (fun v m wr => ∃ (k g cc : Nat), k ≤ ts.length ∧ m = .int .i64 k ∧ v = .slice (some ⟨g, 0, none⟩) (stIns ((rs ++ ss) ++ ts.take k)).length cc ∧ wr.ownsRow w.heap.size 95 2 (.slice (some ⟨g, 0, none⟩) (stIns ((rs ++ ss) ++ ts.take k)).length cc) (stIns ((rs ++ ss) ++ ts.take k)).length ((stIns ((rs ++ ss) ++ ts.take k)).map DSetting.cells).flatten ∧ Below w.heap.size w wr) (fun _ m _ => ts.length - (intOf m).toNat)
          case atStart => exact ⟨0, g, cc, Nat.zero_le _, rfl, by rw [List.take_zero, List.append_nil], by rw [List.take_zero, List.append_nil]; exact HO.out, HB.out⟩
          case round =>
            obtain ⟨k, g, cc, hk, rfl, rfl, hown, hbel⟩ := hrel
            have HO := hid hown
            have HB := hid hbel
            have hsl := stIns_len ((rs ++ ss) ++ ts.take k)
            have hsl2 : ((rs ++ ss) ++ ts.take k).length ≤ 72 := by simp only [List.length_append, List.length_take]; omega
            clear hown hbel
            by_cases hkl : k < ts.length
            · have hne : ts.map DSetting.cells ≠ [] := by intro e; rw [List.map_eq_nil_iff] at e; rw [e] at hkl; exact absurd hkl (by simp)
              obtain ⟨b, o, rfl, hlt, hc⟩ := (HA2.out.below HB.out) hne
              have HC := hid hc
              have hc0 : wr.cell? ⟨b, o + k * 2, none⟩ = some (.string ts[k].fName) := HC.out k _ (by rw [List.getElem?_map, List.getElem?_eq_getElem hkl]; rfl) 0 _ rfl
              have hc1 : wr.cell? ⟨b, o + k * 2 + 1, none⟩ = some (.int .i64 ts[k].fValue) := HC.out k _ (by rw [List.getElem?_map, List.getElem?_eq_getElem hkl]; rfl) 1 _ rfl
              have q0 : (0 : Int) ≤ (k : Int) := by omega
              have q1 : (k : Int) < ts.length := by omega
              clear hc hne
              have HE := hid (stIns_next (P := (rs ++ ss)) hkl)
              have HR := hid (rows_own HO.out (by simp) (cellsSetting_len _))
              obtain ⟨zs, hzs⟩ : ∃ zs, zs = (stIns ((rs ++ ss) ++ ts.take k)) := ⟨_, rfl⟩
              rw [← hzs] at HO HE HR hsl
              rw [← hzs]
              clear hzs
              go_wp2_with (go_at_call 74; refine (l27Set_ok (some ⟨g, 0, none⟩) cc zs ts[k] _ HR.out (by omega)).mono ?_; rintro en w2 ⟨⟨g2, c2, rfl, ho⟩, hb⟩; have O2 := hid (own_mono ho HB.out.size); have B2 := hid (below_up HB.out HB.out.size hb); clear ho hb)
              go_roundw
              case rel => exact ⟨k + 1, g2, c2, by omega, by go_num, by rw [← HE.out], by rw [← HE.out]; exact O2.out, B2.out⟩
              case measure => simp [intOf]; omega
            · have hk2 : k = ts.length := by omega
              subst hk2
              have HE9 := hid (show stIns (rs ++ ss ++ ts) = stIns ((rs ++ ss) ++ ts.take ts.length) by rw [List.take_length])
              rw [← HE9.out] at HO
              rw [← HE9.out]
              go_wp2_with fail
              rename World => w3
              have hz3 := stIns_len (rs ++ ss ++ ts)
              have hz4 : (rs ++ ss ++ ts).length ≤ 72 := by simp only [List.length_append]; omega
              have HR := hid (rows_own HO.out (by simp) (cellsSetting_len _))
              have HN := hid (show (stIns (rs ++ ss ++ ts)).map stn = setOf (allsN [rs, ss, ts] 3) by rw [stIns_names, alls_map])
              obtain ⟨zs, hzs⟩ : ∃ zs, zs = stIns (rs ++ ss ++ ts) := ⟨_, rfl⟩
              rw [← hzs] at HR HN hz3
              rw [← hzs]
              clear hzs HE9
              have HB3 := hid HB.out
              go_loopw [11, 12] (fun v m wr => ∃ (k g cc : Nat), k ≤ zs.length ∧ m = .int .i64 k ∧ v = .slice (some ⟨g, 0, none⟩) (namesN (stN zs) k).length cc ∧ wr.ownsRow w3.heap.size 9 1 (.slice (some ⟨g, 0, none⟩) (namesN (stN zs) k).length cc) (namesN (stN zs) k).length ((namesN (stN zs) k).map vS) ∧ Below w3.heap.size w3 wr) (fun _ m _ => zs.length - (intOf m).toNat)
              case atStart => exact ⟨0, _, _, Nat.zero_le _, rfl, rfl, World.ownsRow_lit _ _ 0 (Nat.le_refl _) (by unfold maxLen; omega) rfl, below_alloc _ _⟩
              case round =>
                obtain ⟨k, g4, cc4, hk, rfl, rfl, hown, hbel⟩ := hrel
                have HO := hid hown
                have HB := hid hbel
                have hnl : (namesN (stN zs) k).length ≤ 1 * k := namesN_len (stN_len zs) k
                clear hown hbel
                by_cases hkl : k < zs.length
                · obtain ⟨b, o, hA1, hlt, hc⟩ := (HR.out.below HB.out) (by intro e; rw [List.map_eq_nil_iff] at e; rw [e] at hkl; exact absurd hkl (by simp))
                  injection hA1 with hA1
                  injection hA1 with hA1 ho1
                  subst hA1 ho1
                  have hc0 : wr.cell? ⟨g, k * 2, none⟩ = some (.string zs[k].fName) := by
                    have h := hc k _ (by rw [List.getElem?_map, List.getElem?_eq_getElem hkl]; rfl) 0 _ rfl
                    rw [show 0 + k * 2 + 0 = k * 2 by omega] at h
                    exact h
                  have q0 : (0 : Int) ≤ (k : Int) := by omega
                  have q1 : (k : Int) < zs.length := by omega
                  clear hc
                  have HE := hid (show (namesN (stN zs) k).map vS ++ [.string zs[k].fName] = (namesN (stN zs) (k + 1)).map vS by
                    rw [namesN, stN_at hkl]
                    simp only [List.map_append, List.map_cons, List.map_nil, vS_data])
                  have LE := hid (show (namesN (stN zs) k).length + 1 = (namesN (stN zs) (k + 1)).length by
                    rw [namesN, stN_at hkl]
                    simp only [List.length_append, List.length_cons, List.length_nil])
                  go_wp2_with (at_builtin; refine wpList_app (w0 := w3) rfl (.tmp 57) (.tmp 63) 57 rfl w3.heap.size 9 (.string ⟨#[]⟩) 1 16 Try.underlying57 infoStr rfl (by decide) _ _ _ rfl HO.out #[.string zs[k].fName] 1 1 (by simp [Act.eval]) rfl (by simp [Value.oneCell']) (by omega) HB.out.size HB.out ?_; intro v1 w6 hown1 hbel1 hz1 _; obtain ⟨g6, c6, rfl, hf6⟩ := own_form hown1 (by omega))
                  go_roundw
                  case rel => exact ⟨k + 1, g6, c6, by omega, by go_num, by rw [← LE.out], by rw [← HE.out, ← LE.out]; exact hown1, hbel1⟩
                  case measure => simp [intOf]; omega
                · have hk2 : k = zs.length := by omega
                  subst hk2
                  have HF := hid (show namesN (stN zs) zs.length = setOf (allsN [rs, ss, ts] 3) by rw [names_take zs _ (Nat.le_refl _), List.take_length, HN.out])
                  go_wp2_with fail
                  go_ret
                  exact ⟨⟨g4, cc4, by rw [HF.out]; first | done | rfl, by rw [← HF.out]; exact own_mono HO.out HB3.out.size⟩, below_up HB3.out HB3.out.size HB.out⟩

end Go.Proofs.Ytjeklbhdngkngaa
