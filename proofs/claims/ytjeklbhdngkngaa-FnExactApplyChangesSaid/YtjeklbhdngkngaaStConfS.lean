/- States: the reference's conflicts. -/
import Derived.Test.YtjeklbhdngkngaaStEq
namespace Go.Proofs.Ytjeklbhdngkngaa
open Go.RowKit
set_option linter.unusedVariables false

attribute [-go_sem] Go.run_equalIn_agg
theorem l27Get_gen (A : Option Addr) (c : Nat) (xs : List DSetting) (z : Str) (G : DSetting) (w : World) (hA : RowsAt w 2 A (xs.map DSetting.cells)) (hn : xs.length ≤ 1000) (hG : G = getN xs z) :
    Calls Try.prog 127 #[.slice A xs.length c, .string (tB z)] w fun e w' => e = .returned (.agg #[.string G.fName, .int .i64 G.fValue]) ∧ Below w.heap.size w w' := by
  subst hG
  exact l27Get_ok A c xs (tB z) w hA hn
theorem conf_eq {rs ss ts : List DSetting} {z : Str} {G0 G1 G2 : DSetting} (h0 : StateTo rs rs.length) (h1 : StateTo ss ss.length) (h2 : StateTo ts ts.length) (e0 : G0 = getN rs z) (e1 : G1 = getN ss z) (e2 : G2 = getN ts z) :
    confP rs ss ts z = (eqF G0.fName G1.fName G0.fValue G1.fValue || eqF G0.fName G2.fName G0.fValue G2.fValue || eqF G1.fName G2.fName G1.fValue G2.fValue) := by
  subst e0 e1 e2
  rw [eqF_get h0 h1, eqF_get h0 h2, eqF_get h1 h2]
  unfold confP
  rw [show (valN ss z == valN rs z) = (valN rs z == valN ss z) from BEq.comm, show (valN ts z == valN rs z) = (valN rs z == valN ts z) from BEq.comm]
  cases (valN ss z == valN ts z) <;> cases (valN rs z == valN ss z) <;> cases (valN rs z == valN ts z) <;> rfl
theorem filt_succ {p : Str → Bool} {zs : List Str} {k : Nat} (h : k < zs.length) : (zs.take (k + 1)).filter (fun z => !p z) = (zs.take k).filter (fun z => !p z) ++ (if p zs[k] = true then [] else [zs[k]]) := by
  rw [List.take_succ_eq_append_getElem h, List.filter_append]
  congr 1
  cases hp : p zs[k] <;> simp [hp]

set_option maxHeartbeats 3200000 in
set_option maxRecDepth 100000 in
theorem l27Conflicts_ok (A0 : Option Addr) (c0 : Nat) (rs : List DSetting) (A1 : Option Addr) (c1 : Nat) (ss : List DSetting) (A2 : Option Addr) (c2 : Nat) (ts : List DSetting) (w : World) (hA0 : RowsAt w 2 A0 (rs.map DSetting.cells)) (hs0 : StateTo rs rs.length) (hn0 : rs.length ≤ 24) (hA1 : RowsAt w 2 A1 (ss.map DSetting.cells)) (hs1 : StateTo ss ss.length) (hn1 : ss.length ≤ 24) (hA2 : RowsAt w 2 A2 (ts.map DSetting.cells)) (hs2 : StateTo ts ts.length) (hn2 : ts.length ≤ 24) :
    Calls Try.prog 125 #[.slice A0 rs.length c0, .slice A1 ss.length c1, .slice A2 ts.length c2] w fun e w' => (∃ g c', e = .returned (.slice (some ⟨g, 0, none⟩) (confN rs ss ts).length c') ∧ w'.ownsRow w.heap.size 9 1 (.slice (some ⟨g, 0, none⟩) (confN rs ss ts).length c') (confN rs ss ts).length ((confN rs ss ts).map vS)) ∧ Below w.heap.size w w' := by
  have HA0 := hid hA0
  have HA1 := hid hA1
  have HA2 := hid hA2
  have HS := hid (And.intro hs0 (And.intro hs1 hs2))
  have hcl := (confN_len hn0 hn1 hn2).1
  clear hA0 hA1 hA2 hs0 hs1 hs2
  go_enter Try.func125, Try.ntmps125
  go_wp2_with fail
  refine (l27Names_ok A0 c0 rs A1 c1 ss A2 c2 ts _ HA0.out hn0 HA1.out hn1 HA2.out hn2).mono ?_
  rintro e w1 ⟨⟨gn, cn, rfl, ho⟩, hb⟩
  have HCN := hid (show (confN rs ss ts) = (setOf (allsN [rs, ss, ts] 3)).filter (fun z => !confP rs ss ts z) from rfl)
  obtain ⟨zs, hzs⟩ : ∃ zs, zs = setOf (allsN [rs, ss, ts] 3) := ⟨_, rfl⟩
  rw [← hzs] at ho hcl HCN
  rw [← hzs]
  clear hzs
  have NO := hid ho
  have hg1 := (own_cap ho).2.2.2
  have B1 := hid hb
  clear ho hb
  go_wp2_with fail
  go_loopw [8, 9] (fun v m wr => ∃ (k g cc : Nat), k ≤ zs.length ∧ m = .int .i64 k ∧ v = .slice (some ⟨g, 0, none⟩) ((zs.take k).filter (fun z => !confP rs ss ts z)).length cc ∧ wr.ownsRow w1.heap.size 9 1 (.slice (some ⟨g, 0, none⟩) ((zs.take k).filter (fun z => !confP rs ss ts z)).length cc) ((zs.take k).filter (fun z => !confP rs ss ts z)).length (((zs.take k).filter (fun z => !confP rs ss ts z)).map vS) ∧ Below w1.heap.size w1 wr) (fun _ m _ => zs.length - (intOf m).toNat)
  case atStart => exact ⟨0, _, _, Nat.zero_le _, rfl, rfl, World.ownsRow_lit _ _ 0 (Nat.le_refl _) (by unfold maxLen; omega) rfl, below_alloc _ _⟩
  case round =>
    obtain ⟨k, g, cc, hk, rfl, rfl, hown, hbel⟩ := hrel
    have HO := hid hown
    have HB := hid hbel
    have hgn : gn < wr.heap.size := Nat.lt_of_lt_of_le hg1 hbel.size
    have hfl : ((zs.take k).filter (fun z => !confP rs ss ts z)).length ≤ k := Nat.le_trans (List.length_filter_le _ _) (by rw [List.length_take]; omega)
    clear hown hbel
    by_cases hkl : k < zs.length
    · have BW := hid (below_trans B1.out HB.out)
      have R0 := hid (HA0.out.below BW.out)
      have R1 := hid (HA1.out.below BW.out)
      have R2 := hid (HA2.out.below BW.out)
      have hcN : wr.cell? ⟨gn, k, none⟩ = some (.string (tB zs[k])) := by
        rw [(own_below NO.out HB.out).cellAt k (by omega), List.getElem?_map, List.getElem?_eq_getElem hkl]
        rfl
      have q0 : (0 : Int) ≤ (k : Int) := by omega
      have q1 : (k : Int) < zs.length := by omega
      obtain ⟨G0, hG0⟩ : ∃ G, G = getN rs zs[k] := ⟨_, rfl⟩
      obtain ⟨G1, hG1⟩ : ∃ G, G = getN ss zs[k] := ⟨_, rfl⟩
      obtain ⟨G2, hG2⟩ : ∃ G, G = getN ts zs[k] := ⟨_, rfl⟩
      have HC := hid (conf_eq HS.out.1 HS.out.2.1 HS.out.2.2 hG0 hG1 hG2)
      have HG0 := hid hG0
      have HG1 := hid hG1
      have HG2 := hid hG2
      clear hG0 hG1 hG2
      cases d1 : eqF G0.fName G1.fName G0.fValue G1.fValue
      · cases d2 : eqF G0.fName G2.fName G0.fValue G2.fValue
        · cases d3 : eqF G1.fName G2.fName G1.fValue G2.fValue
          · skip
            have HE := hid (show ((zs.take (k + 1)).filter (fun z => !confP rs ss ts z)) = ((zs.take k).filter (fun z => !confP rs ss ts z)) ++ [zs[k]] by rw [filt_succ hkl, if_neg (by rw [HC.out, d1, d2, d3]; simp)])
            go_wp2_with (first | (at_builtin; refine wpList_app (w0 := w1) rfl (.tmp 55) (.tmp 60) 57 rfl w1.heap.size 9 (.string ⟨#[]⟩) 1 16 Try.underlying57 infoStr rfl (by decide) _ _ _ rfl O4.out #[.string (tB zs[k])] 1 1 (by simp [Act.eval]) rfl (by simp [Value.oneCell']) (by omega) B4.out.size B4.out ?_; intro v5 w5 hown5 hb5 hz5 _; obtain ⟨g5, c5, rfl, _⟩ := own_form hown5 (by omega); have O5 := hid hown5; have B5 := hid hb5; clear hown5 hb5) | (go_at_call 127; refine (l27Get_gen A2 c2 ts zs[k] G2 _ (R2.out.below D3.out) (by omega) HG2.out).mono ?_; rintro e w4 ⟨rfl, hb⟩; have E4 := hid (below_trans hb (below_alloc w4 (.cells #[.string G2.fName, .int .i64 G2.fValue] 95))); have D4 := hid (below_trans D3.out E4.out); have X24 := X23.out.below E4.out; have X34 := X3.out.below E4.out; have X4 := HasC.new w4 [.string G2.fName, .int .i64 G2.fValue] 95; have a0 := X24.2 0 _ rfl; have a1 := X24.2 1 _ rfl; have a2 := X34.2 0 _ rfl; have a3 := X34.2 1 _ rfl; have a4 := X4.2 0 _ rfl; have a5 := X4.2 1 _ rfl; have y4 := (D4.out.cell (p := ⟨gn, k, none⟩) hgn).trans hcN; have O4 := hid (own_below HO.out D4.out); have B4 := hid (below_up HB.out HB.out.size D4.out); clear hb X24 X34 X4) | (go_at_call 127; refine (l27Get_gen A1 c1 ss zs[k] G1 _ (R1.out.below D2.out) (by omega) HG1.out).mono ?_; rintro e w3 ⟨rfl, hb⟩; have E3 := hid (below_trans hb (below_alloc w3 (.cells #[.string G1.fName, .int .i64 G1.fValue] 95))); have D3 := hid (below_trans D2.out E3.out); have X23 := hid (X2.out.below E3.out); have X3 := hid (HasC.new w3 [.string G1.fName, .int .i64 G1.fValue] 95); have y3 := (D3.out.cell (p := ⟨gn, k, none⟩) hgn).trans hcN; clear hb) | (go_at_call 127; refine (l27Get_gen A0 c0 rs zs[k] G0 wr R0.out (by omega) HG0.out).mono ?_; rintro e w2 ⟨rfl, hb⟩; have D2 := hid (below_trans hb (below_alloc w2 (.cells #[.string G0.fName, .int .i64 G0.fValue] 95))); have X2 := hid (HasC.new w2 [.string G0.fName, .int .i64 G0.fValue] 95); have y2 := (D2.out.cell (p := ⟨gn, k, none⟩) hgn).trans hcN; clear hb))
            go_roundw
            case rel =>
              refine ⟨k + 1, g5, c5, by omega, by go_num, by rw [HE.out, List.length_append]; first | done | rfl, ?_, B5.out⟩
              rw [HE.out, List.length_append, List.map_append]
              exact O5.out
            case measure => simp [intOf]; omega
          · skip
            have HE := hid (show ((zs.take (k + 1)).filter (fun z => !confP rs ss ts z)) = ((zs.take k).filter (fun z => !confP rs ss ts z)) by rw [filt_succ hkl, if_pos (by rw [HC.out, d1, d2, d3]; first | done | rfl), List.append_nil])
            go_wp2_with (first | (go_at_call 127; refine (l27Get_gen A2 c2 ts zs[k] G2 _ (R2.out.below D3.out) (by omega) HG2.out).mono ?_; rintro e w4 ⟨rfl, hb⟩; have E4 := hid (below_trans hb (below_alloc w4 (.cells #[.string G2.fName, .int .i64 G2.fValue] 95))); have D4 := hid (below_trans D3.out E4.out); have X24 := X23.out.below E4.out; have X34 := X3.out.below E4.out; have X4 := HasC.new w4 [.string G2.fName, .int .i64 G2.fValue] 95; have a0 := X24.2 0 _ rfl; have a1 := X24.2 1 _ rfl; have a2 := X34.2 0 _ rfl; have a3 := X34.2 1 _ rfl; have a4 := X4.2 0 _ rfl; have a5 := X4.2 1 _ rfl; have y4 := (D4.out.cell (p := ⟨gn, k, none⟩) hgn).trans hcN; have O4 := hid (own_below HO.out D4.out); have B4 := hid (below_up HB.out HB.out.size D4.out); clear hb X24 X34 X4) | (go_at_call 127; refine (l27Get_gen A1 c1 ss zs[k] G1 _ (R1.out.below D2.out) (by omega) HG1.out).mono ?_; rintro e w3 ⟨rfl, hb⟩; have E3 := hid (below_trans hb (below_alloc w3 (.cells #[.string G1.fName, .int .i64 G1.fValue] 95))); have D3 := hid (below_trans D2.out E3.out); have X23 := hid (X2.out.below E3.out); have X3 := hid (HasC.new w3 [.string G1.fName, .int .i64 G1.fValue] 95); have y3 := (D3.out.cell (p := ⟨gn, k, none⟩) hgn).trans hcN; clear hb) | (go_at_call 127; refine (l27Get_gen A0 c0 rs zs[k] G0 wr R0.out (by omega) HG0.out).mono ?_; rintro e w2 ⟨rfl, hb⟩; have D2 := hid (below_trans hb (below_alloc w2 (.cells #[.string G0.fName, .int .i64 G0.fValue] 95))); have X2 := hid (HasC.new w2 [.string G0.fName, .int .i64 G0.fValue] 95); have y2 := (D2.out.cell (p := ⟨gn, k, none⟩) hgn).trans hcN; clear hb))
            go_roundw
            case rel => exact ⟨k + 1, g, cc, by omega, by go_num, by rw [HE.out], by rw [HE.out]; exact O4.out, B4.out⟩
            case measure => simp [intOf]; omega
        · skip
          have HE := hid (show ((zs.take (k + 1)).filter (fun z => !confP rs ss ts z)) = ((zs.take k).filter (fun z => !confP rs ss ts z)) by rw [filt_succ hkl, if_pos (by rw [HC.out, d1, d2]; first | done | rfl), List.append_nil])
          go_wp2_with (first | (go_at_call 127; refine (l27Get_gen A2 c2 ts zs[k] G2 _ (R2.out.below D3.out) (by omega) HG2.out).mono ?_; rintro e w4 ⟨rfl, hb⟩; have E4 := hid (below_trans hb (below_alloc w4 (.cells #[.string G2.fName, .int .i64 G2.fValue] 95))); have D4 := hid (below_trans D3.out E4.out); have X24 := X23.out.below E4.out; have X34 := X3.out.below E4.out; have X4 := HasC.new w4 [.string G2.fName, .int .i64 G2.fValue] 95; have a0 := X24.2 0 _ rfl; have a1 := X24.2 1 _ rfl; have a2 := X34.2 0 _ rfl; have a3 := X34.2 1 _ rfl; have a4 := X4.2 0 _ rfl; have a5 := X4.2 1 _ rfl; have y4 := (D4.out.cell (p := ⟨gn, k, none⟩) hgn).trans hcN; have O4 := hid (own_below HO.out D4.out); have B4 := hid (below_up HB.out HB.out.size D4.out); clear hb X24 X34 X4) | (go_at_call 127; refine (l27Get_gen A1 c1 ss zs[k] G1 _ (R1.out.below D2.out) (by omega) HG1.out).mono ?_; rintro e w3 ⟨rfl, hb⟩; have E3 := hid (below_trans hb (below_alloc w3 (.cells #[.string G1.fName, .int .i64 G1.fValue] 95))); have D3 := hid (below_trans D2.out E3.out); have X23 := hid (X2.out.below E3.out); have X3 := hid (HasC.new w3 [.string G1.fName, .int .i64 G1.fValue] 95); have y3 := (D3.out.cell (p := ⟨gn, k, none⟩) hgn).trans hcN; clear hb) | (go_at_call 127; refine (l27Get_gen A0 c0 rs zs[k] G0 wr R0.out (by omega) HG0.out).mono ?_; rintro e w2 ⟨rfl, hb⟩; have D2 := hid (below_trans hb (below_alloc w2 (.cells #[.string G0.fName, .int .i64 G0.fValue] 95))); have X2 := hid (HasC.new w2 [.string G0.fName, .int .i64 G0.fValue] 95); have y2 := (D2.out.cell (p := ⟨gn, k, none⟩) hgn).trans hcN; clear hb))
          go_roundw
          case rel => exact ⟨k + 1, g, cc, by omega, by go_num, by rw [HE.out], by rw [HE.out]; exact O4.out, B4.out⟩
          case measure => simp [intOf]; omega
      · skip
        have HE := hid (show ((zs.take (k + 1)).filter (fun z => !confP rs ss ts z)) = ((zs.take k).filter (fun z => !confP rs ss ts z)) by rw [filt_succ hkl, if_pos (by rw [HC.out, d1]; first | done | rfl), List.append_nil])
        go_wp2_with (first | (go_at_call 127; refine (l27Get_gen A2 c2 ts zs[k] G2 _ (R2.out.below D3.out) (by omega) HG2.out).mono ?_; rintro e w4 ⟨rfl, hb⟩; have E4 := hid (below_trans hb (below_alloc w4 (.cells #[.string G2.fName, .int .i64 G2.fValue] 95))); have D4 := hid (below_trans D3.out E4.out); have X24 := X23.out.below E4.out; have X34 := X3.out.below E4.out; have X4 := HasC.new w4 [.string G2.fName, .int .i64 G2.fValue] 95; have a0 := X24.2 0 _ rfl; have a1 := X24.2 1 _ rfl; have a2 := X34.2 0 _ rfl; have a3 := X34.2 1 _ rfl; have a4 := X4.2 0 _ rfl; have a5 := X4.2 1 _ rfl; have y4 := (D4.out.cell (p := ⟨gn, k, none⟩) hgn).trans hcN; have O4 := hid (own_below HO.out D4.out); have B4 := hid (below_up HB.out HB.out.size D4.out); clear hb X24 X34 X4) | (go_at_call 127; refine (l27Get_gen A1 c1 ss zs[k] G1 _ (R1.out.below D2.out) (by omega) HG1.out).mono ?_; rintro e w3 ⟨rfl, hb⟩; have E3 := hid (below_trans hb (below_alloc w3 (.cells #[.string G1.fName, .int .i64 G1.fValue] 95))); have D3 := hid (below_trans D2.out E3.out); have X23 := hid (X2.out.below E3.out); have X3 := hid (HasC.new w3 [.string G1.fName, .int .i64 G1.fValue] 95); have y3 := (D3.out.cell (p := ⟨gn, k, none⟩) hgn).trans hcN; clear hb) | (go_at_call 127; refine (l27Get_gen A0 c0 rs zs[k] G0 wr R0.out (by omega) HG0.out).mono ?_; rintro e w2 ⟨rfl, hb⟩; have D2 := hid (below_trans hb (below_alloc w2 (.cells #[.string G0.fName, .int .i64 G0.fValue] 95))); have X2 := hid (HasC.new w2 [.string G0.fName, .int .i64 G0.fValue] 95); have y2 := (D2.out.cell (p := ⟨gn, k, none⟩) hgn).trans hcN; clear hb))
        go_roundw
        case rel => exact ⟨k + 1, g, cc, by omega, by go_num, by rw [HE.out], by rw [HE.out]; exact O4.out, B4.out⟩
        case measure => simp [intOf]; omega
    · have hk2 : k = zs.length := by omega
      subst hk2
      have HF := hid (show ((zs.take zs.length).filter (fun z => !confP rs ss ts z)) = (confN rs ss ts) by rw [List.take_length, HCN.out])
      go_wp2_with fail
      go_ret
      exact ⟨⟨g, cc, by rw [← HF.out]; first | done | rfl, by rw [← HF.out]; exact own_mono HO.out B1.out.size⟩, below_trans B1.out HB.out⟩


end Go.Proofs.Ytjeklbhdngkngaa
