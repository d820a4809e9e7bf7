/- The laws' marks laid into new versions: what these then hold; that it is held. -/
import Derived.Test.YtmfadjdpbobfhaaDoorNestR
import Derived.Test.YtmfadjdpbobfhaaDoorNVersion
import Derived.Test.YtmfadjdpbobfhaaDoorHSetting
namespace Go.Proofs.YtmfadjdpbobfhaaDoor
open Go.RowKit
set_option linter.unusedVariables false

def mkVer (z : Int) (x : DVersion) : DVersion := ⟨z, z + 1, markT (z + 1 + 1).toNat, mksSetting (z + 1 + 1 + 1) x.fIn.length⟩
def nextV (z : Int) (x : DVersion) : Int := z + 1 + 1 + 1 + 2 * (x.fIn.length : Int)
def endV : Int → List DVersion → Int
  | z, [] => z
  | z, x :: r => endV (nextV z x) r
def mkVers : Int → List DVersion → List DVersion
  | _, [] => []
  | z, x :: r => mkVer z x :: mkVers (nextV z x) r
theorem mkVers_length : ∀ (z : Int) (vs : List DVersion), (mkVers z vs).length = vs.length
  | _, [] => rfl
  | z, x :: r => by rw [mkVers, List.length_cons, List.length_cons, mkVers_length]
theorem endV_app : ∀ (z : Int) (a b : List DVersion), endV z (a ++ b) = endV (endV z a) b
  | _, [], _ => rfl
  | z, x :: a, b => by rw [List.cons_append, endV, endV, endV_app]
theorem mkVers_app : ∀ (z : Int) (a b : List DVersion), mkVers z (a ++ b) = mkVers z a ++ mkVers (endV z a) b
  | _, [], _ => rfl
  | z, x :: a, b => by rw [List.cons_append, mkVers, mkVers, mkVers_app, endV]; rfl
theorem endV_succ {z : Int} {vs : List DVersion} {j : Nat} (h : j < vs.length) : endV z (vs.take (j + 1)) = nextV (endV z (vs.take j)) vs[j] := by
  rw [List.take_succ_eq_append_getElem h, endV_app]
  rfl
/-- the first j bear marks -/
def halfV (z : Int) (vs : List DVersion) (j : Nat) : List DVersion := mkVers z (vs.take j) ++ vs.drop j
theorem halfV_length {z : Int} {vs : List DVersion} {j : Nat} (h : j ≤ vs.length) : (halfV z vs j).length = vs.length := by
  unfold halfV
  rw [List.length_append, mkVers_length, List.length_take, List.length_drop]
  omega
theorem halfV_at {z : Int} {vs : List DVersion} {j : Nat} (h : j < vs.length) : (halfV z vs j)[j]? = some vs[j] := by
  unfold halfV
  have hl : (mkVers z (vs.take j)).length = j := by rw [mkVers_length, List.length_take]; omega
  rw [List.getElem?_append_right (by omega), hl, Nat.sub_self, List.getElem?_drop, Nat.add_zero, List.getElem?_eq_getElem h]
theorem halfV_succ {z : Int} {vs : List DVersion} {j : Nat} (h : j < vs.length) : halfV z vs (j + 1) = (halfV z vs j).set j (mkVer (endV z (vs.take j)) vs[j]) := by
  unfold halfV
  have hl : (mkVers z (vs.take j)).length = j := by rw [mkVers_length, List.length_take]; omega
  rw [List.set_append_right _ _ (by omega), hl, Nat.sub_self, List.drop_eq_getElem_cons h, List.set_cons_zero, List.take_succ_eq_append_getElem h, mkVers_app, List.append_assoc]
  rfl
theorem halfV_zero (z : Int) (vs : List DVersion) : halfV z vs 0 = vs := by simp [halfV, mkVers]
theorem halfV_all (z : Int) (vs : List DVersion) : halfV z vs vs.length = mkVers z vs := by simp [halfV]
theorem inVer_mk (z : Int) (x : DVersion) : (inVersion (mkVer z x)).length = (inVersion x).length := by
  rw [inVersion_length, inVersion_length]
  exact mksSetting_length _ _
theorem mkVers_at : ∀ {z : Int} {vs : List DVersion} {j : Nat} (h : j < vs.length), (mkVers z vs)[j]? = some (mkVer (endV z (vs.take j)) vs[j])
  | z, x :: r, 0, _ => rfl
  | z, x :: r, j + 1, h => by
    rw [mkVers, List.getElem?_cons_succ, mkVers_at (by simpa using h)]
    rfl

set_option maxHeartbeats 3200000 in
set_option maxRecDepth 100000 in
theorem markVersionX_ok (g c B E : Nat) (ps : List (Nat × Nat)) (xs : List DVersion) (k0 : Int) (w : World) (hown : NestR w B E 89 135 2 hdVersion inVersion g c ps xs) (hk0 : 0 < k0) (hk1 : k0 ≤ 100000000) (hn : xs.length ≤ 1048576) (hi : ∀ x ∈ xs, x.fIn.length ≤ 1048576) :
    Calls Tryd.prog 15 #[.slice (some ⟨g, 0, none⟩) xs.length c, .int .i64 k0] w fun e w' => e = .returned (.int .i64 (endV k0 xs)) ∧ NestR w' B E 89 135 2 hdVersion inVersion g c ps (mkVers k0 xs) ∧ Chg B E w w' := by
  have HN0 := hid hown
  have HI := hid hi
  have hgl := hown.gl
  clear hown hi
  go_enter Tryd.func15, Tryd.ntmps15
  go_wp2_with fail
  go_loopw [5, 1] (fun i m wr => ∃ (j : Nat) (z : Int), j ≤ xs.length ∧ i = .int .i64 j ∧ m = .int .i64 z ∧ 0 < z ∧ z ≤ k0 + 10485760 * (j : Int) ∧ z = endV k0 (xs.take j) ∧ NestR wr B E 89 135 2 hdVersion inVersion g c ps (halfV k0 xs j) ∧ Chg B E w wr) (fun i _ _ => xs.length - (intOf i).toNat)
  case atStart => exact ⟨0, k0, Nat.zero_le _, rfl, rfl, hk0, by omega, by rw [List.take_zero]; rfl, by rw [halfV_zero]; exact HN0.out, Chg.refl _ _ _⟩
  case round =>
    obtain ⟨j, z, hj, rfl, rfl, hz0, hz1, hze, hnest, hch⟩ := hrel
    by_cases hjl : j < xs.length
    · have hgj0 : ps[j]? = some (ps[j]'(by have := hnest.len; rw [halfV_length hj] at this; omega)) := List.getElem?_eq_getElem _
      obtain ⟨⟨gj, cj⟩, hgj⟩ : ∃ p, ps[j]? = some p := ⟨_, hgj0⟩
      have hat := halfV_at (z := k0) hjl
      have IN0 := hnest.inner j _ (gj, cj) hat hgj
      rw [inVersion_length] at IN0
      have hO := hnest.outer
      rw [halfV_length hj] at hO
      have hgjm := List.mem_of_getElem? hgj
      have hgne : g ≠ gj := fun e => hnest.away _ hgjm e.symm
      have hgjl := hnest.gsl _ hgjm
      dsimp only at IN0 hgjl
      have hrow3 : (rowsR hdVersion inVersion (halfV k0 xs j) ps).flatten[j * 4 + 3]? = some (.slice (some ⟨gj, 0, none⟩) xs[j].fIn.length cj) := by
        rw [flatten_at (rowsR_len hdVersion_length _ ps) (rowsR_at hat hgj) (by omega), rowR, List.getElem?_append_right (by rw [hdVersion_length]; exact Nat.le_refl _), hdVersion_length, inVersion_length]
        rfl
      have HW := hid hrow3
      have HNS := hid hnest
      have P0 := hid hO
      have I0 := hid IN0
      have HC := hid hch
      have HZE := hid hze
      have HGJ := hid hgj
      have HX := HI.out xs[j] (List.getElem_mem hjl)
      clear hgj0 hnest hch hze hgj hat hO IN0 hrow3
      obtain ⟨u0, hold0⟩ := own_cell P0.out (q := j * 4) (by omega)
      have hfr0 := P0.out.frozenAt (j * 4)
      obtain ⟨u1, hold1⟩ := own_cell P0.out (q := j * 4 + 1) (by omega)
      have hfr1 := P0.out.frozenAt (j * 4 + 1)
      have P1 := hid (own_setCells [.int .i64 z, .int .i64 (z + 1)] (p := j * 4) P0.out)
      have D1 := hid (Chg.setCells (Nat.le_refl g) (Nat.lt_succ_self g) [.int .i64 z, .int .i64 (z + 1)] (p := j * 4) (Chg.refl g (g + 1) wr))
      go_wp2_with fail
      refine (markText_i _ _ (by omega) (by omega)).mono ?_
      rintro e w2 ⟨rfl, hb⟩
      have P2 := hid (own_below P1.out hb)
      have D2 := hid (show Chg g (g + 1) wr w2 from D1.out.then_below hb)
      clear hb hold0 hold1 hfr0 hfr1
      obtain ⟨u2, hold2⟩ := own_cell P2.out (q := j * 4 + 2) (by omega)
      have hfr2 := P2.out.frozenAt (j * 4 + 2)
      have P3 := hid (own_setCells [.string (markT (z + 1 + 1).toNat)] (p := j * 4 + 2) P2.out)
      have D3 := hid (Chg.setCells (Nat.le_refl g) (Nat.lt_succ_self g) [.string (markT (z + 1 + 1).toNat)] (p := j * 4 + 2) D2.out)
      have hc3 : (setCells w2 g (j * 4 + 2) [.string (markT (z + 1 + 1).toNat)]).cell? ⟨g, j * 4 + 3, none⟩ = some (.slice (some ⟨gj, 0, none⟩) xs[j].fIn.length cj) := by
        rw [P3.out.cellAt (j * 4 + 3) (by omega), setSeg_behind _ _ _ _ (by simp), setSeg_behind _ _ _ _ (by simp)]
        exact HW.out
      have I3 := hid (own_other1 I0.out D3.out (fun e => hgne e.symm))
      simp only [setCells] at hc3
      go_wp2_with fail
      refine (markSettingX_ok _ _ gj (gj + 1) xs[j].fIn (z + 1 + 1 + 1) _ I3.out (fun g' hg' => by have e : gj = g' := (by simpa [Value.ownBlock] using hg'); omega) (by omega) (by omega) (by omega)).mono ?_
      rintro e w9 ⟨rfl, hown9, hq⟩
      have P9 := hid (own_other1 P3.out hq hgne)
      have I9 := hid hown9
      have D9 := hid (show Chg B E wr w9 from (D3.out.wide (by omega) (by omega)).trans (hq.wide (by omega) (by omega)))
      have S2 := hid (show wr.heap.size ≤ w9.heap.size from D9.out.size)
      have HZN := hid (show z + 1 + 1 + 1 + 2 * (xs[j].fIn.length : Int) = endV k0 (xs.take (j + 1)) by rw [endV_succ hjl, ← HZE.out]; rfl)
      have N9 := hid (show NestR w9 B E 89 135 2 hdVersion inVersion g c ps (halfV k0 xs (j + 1)) from by
        have hat := halfV_at (z := k0) hjl
        have hs := halfV_succ (z := k0) hjl
        have hl1 := halfV_length (z := k0) hj
        have N := HNS.out
        have hl2 : (halfV k0 xs (j + 1)).length = xs.length := halfV_length (by omega)
        refine ⟨?_, by rw [N.len, hl1, hl2], N.apart, N.away, ⟨N.gl.1, N.gl.2.1, Nat.lt_of_lt_of_le N.gl.2.2 S2.out⟩, fun p hp => ⟨(N.gsl p hp).1, (N.gsl p hp).2.1, Nat.lt_of_lt_of_le (N.gsl p hp).2.2 S2.out⟩, ?_⟩
        · rw [hl2, hs, rowsR_set HGJ.out]
          have e := P9.out
          have e5 : ∀ F : List Value, setSeg (setSeg F (j * 4) [.int .i64 z, .int .i64 (z + 1)]) (j * 4 + 2) [.string (markT (z + 1 + 1).toNat)] = setSeg F (j * 4) [.int .i64 z, .int .i64 (z + 1), .string (markT (z + 1 + 1).toNat)] := fun F => setSeg_append [.int .i64 z, .int .i64 (z + 1)] [.string (markT (z + 1 + 1).toNat)] F (j * 4)
          rw [e5] at e
          have e2 := setSeg_keep (us := [.int .i64 z, .int .i64 (z + 1), .string (markT (z + 1 + 1).toNat)]) (p := j * 4) HW.out
          have e3 := setSeg_flatten (us := rowR hdVersion inVersion (mkVer (endV k0 (xs.take j)) xs[j]) (gj, cj)) (rowsR_len (inn := inVersion) hdVersion_length (halfV k0 xs j) ps) (i := j) (by rw [rowsR_length N.len, hl1]; exact hjl) (by simp [rowR, hdVersion_length])
          rw [← e3]
          have e4 : rowR hdVersion inVersion (mkVer (endV k0 (xs.take j)) xs[j]) (gj, cj) = [.int .i64 z, .int .i64 (z + 1), .string (markT (z + 1 + 1).toNat)] ++ [.slice (some ⟨gj, 0, none⟩) xs[j].fIn.length cj] := by
            rw [rowR, inVer_mk, inVersion_length, ← HZE.out]
            rfl
          rw [e4, ← e2]
          exact e
        · rintro i v ⟨gi, ci⟩ hv hgi
          rw [hs] at hv
          by_cases hij : j = i
          · subst hij
            rw [List.getElem?_set_self (by rw [hl1]; exact hjl)] at hv
            have e1 : v = mkVer (endV k0 (xs.take j)) xs[j] := by injection hv with hv; exact hv.symm
            have e2 : (gi, ci) = (gj, cj) := by have := HGJ.out; rw [hgi] at this; injection this
            injection e2 with e2 e3
            subst e1 e2 e3
            rw [inVer_mk, inVersion_length]
            have e := I9.out
            rw [HZE.out] at e
            exact e
          · rw [List.getElem?_set_ne hij] at hv
            have hgne2 : gi ≠ gj := fun e => by
              have a1 : (ps.map Prod.fst)[i]? = some gi := by rw [List.getElem?_map, hgi]; rfl
              have b1 : (ps.map Prod.fst)[j]? = some gj := by rw [List.getElem?_map, HGJ.out]; rfl
              obtain ⟨a1, a2⟩ := List.getElem?_eq_some_iff.1 a1
              obtain ⟨b1, b2⟩ := List.getElem?_eq_some_iff.1 b1
              exact hij ((List.getElem_inj N.apart).1 (b2.trans (e.symm.trans a2.symm)))
            have hgne3 : gi ≠ g := N.away _ (List.mem_of_getElem? hgi)
            exact own_other1 (own_other1 (N.inner i v (gi, ci) hv hgi) D3.out hgne3) hq hgne2)
      clear hq hc3 hold2 hfr2
      go_wp2_with fail
      go_roundw
      case rel => exact ⟨j + 1, z + 1 + 1 + 1 + 2 * (xs[j].fIn.length : Int), by omega, by go_num, rfl, by omega, by omega, HZN.out, N9.out, HC.out.trans D9.out⟩
      case measure => simp [intOf]; omega
    · have hj2 : j = xs.length := by omega
      subst hj2
      rw [List.take_length] at hze
      rw [halfV_all] at hnest
      subst hze
      have HN := hid hnest
      have HC := hid hch
      clear hnest hch
      go_wp2_with fail
      go_ret
      exact ⟨rfl, HN.out, HC.out⟩

set_option maxHeartbeats 3200000 in
set_option maxRecDepth 100000 in
theorem markVersionV_ok (A : Option Addr) (c B E : Nat) (xs : List DVersion) (k0 : Int) (w : World) (hown : NestRV w B E 89 135 2 hdVersion inVersion A c xs) (hk0 : 0 < k0) (hk1 : k0 ≤ 100000000) (hn : xs.length ≤ 1048576) (hi : ∀ x ∈ xs, x.fIn.length ≤ 1048576) :
    Calls Tryd.prog 15 #[.slice A xs.length c, .int .i64 k0] w fun e w' => e = .returned (.int .i64 (endV k0 xs)) ∧ NestRV w' B E 89 135 2 hdVersion inVersion A c (mkVers k0 xs) ∧ Chg B E w w' := by
  rcases hown with ⟨rfl, rfl, rfl⟩ | ⟨g, ps, rfl, h⟩
  · go_enter Tryd.func15, Tryd.ntmps15
    go_wp2_with fail
    go_loop [5, 1] (fun i m => i = .int .i64 0 ∧ m = .int .i64 k0) (fun i _ => 0)
    case atStart => exact ⟨rfl, rfl⟩
    case round =>
      obtain ⟨rfl, rfl⟩ := hrel
      go_wp2_with fail
      go_ret
      exact ⟨rfl, .inl ⟨rfl, rfl, rfl⟩, Chg.refl _ _ _⟩
  · exact (markVersionX_ok g c B E ps xs k0 w h hk0 hk1 hn hi).mono fun _ _ ⟨he, hN, hc⟩ => ⟨he, .inr ⟨g, ps, rfl, hN⟩, hc⟩

set_option maxHeartbeats 3200000 in
set_option maxRecDepth 100000 in
theorem heldVersionS_ok (A : Option Addr) (c : Nat) (xs : List DVersion) (k0 : Int) (w : World) (hA : NestAt 2 hdVersion inVersion w A (mkVers k0 xs)) (hk0 : 0 < k0) (hk1 : k0 ≤ 100000000) (hn : xs.length ≤ 1048576) (hi : ∀ x ∈ xs, x.fIn.length ≤ 1048576) :
    Calls Tryd.prog 16 #[.slice A xs.length c, .int .i64 k0] w fun e w' => e = .returned (.int .i64 (endV k0 xs)) ∧ Below w.heap.size w w' := by
  have HA := hid hA
  have HI := hid hi
  clear hA hi
  go_enter Tryd.func16, Tryd.ntmps16
  go_wp2_with fail
  go_loopw [5, 1] (fun i m wr => ∃ (j : Nat) (z : Int), j ≤ xs.length ∧ i = .int .i64 j ∧ m = .int .i64 z ∧ 0 < z ∧ z ≤ k0 + 10485760 * (j : Int) ∧ z = endV k0 (xs.take j) ∧ Below w.heap.size w wr) (fun i _ _ => xs.length - (intOf i).toNat)
  case atStart => exact ⟨0, k0, Nat.zero_le _, rfl, rfl, hk0, by omega, by rw [List.take_zero]; rfl, Below.refl _ _⟩
  case round =>
    obtain ⟨j, z, hj, rfl, rfl, hz0, hz1, hze, hbel⟩ := hrel
    by_cases hjl : j < xs.length
    · obtain ⟨b, o, A1, c1, hA1, hlt, hc0, hc1, hc2, hc3, hr⟩ := (HA.out.below hbel).atVersion (i := j) (by rw [mkVers_length]; exact hjl)
      have hm : (mkVers k0 xs)[j]'(by rw [mkVers_length]; exact hjl) = mkVer z xs[j] := by
        have h := mkVers_at (z := k0) hjl
        rw [List.getElem?_eq_getElem (by rw [mkVers_length]; exact hjl)] at h
        injection h with h
        rw [h, hze]
      rw [hm] at hc0 hc1 hc2 hc3 hr
      have hil : (mkVer z xs[j]).fIn.length = xs[j].fIn.length := mksSetting_length _ _
      rw [hil] at hc3
      subst hA1
      have HX := HI.out xs[j] (List.getElem_mem hjl)
      have h0 : wr.cell? ⟨b, o + j * 4, none⟩ = some (.int .i64 z) := hc0
      have h1 : wr.cell? ⟨b, o + j * 4 + 1, none⟩ = some (.int .i64 (z + 1)) := hc1
      have h2 : wr.cell? ⟨b, o + j * 4 + 2, none⟩ = some (.string (markT (z + 1 + 1).toNat)) := hc2
      have HR := hid (show RowsAt wr 2 A1 ((mksSetting (z + 1 + 1 + 1) xs[j].fIn.length).map DSetting.cells) from hr)
      have HZE := hid hze
      have HZN := hid (show z + 1 + 1 + 1 + 2 * (xs[j].fIn.length : Int) = endV k0 (xs.take (j + 1)) by rw [endV_succ hjl, ← HZE.out]; rfl)
      have q0 : (0 : Int) ≤ (j : Int) := by omega
      have q1 : (j : Int) < xs.length := by omega
      have BW := hid hbel
      clear hc0 hc1 hc2 hm hil hr hbel hze
      go_wp2_with fail
      go_region_held3 (fun w' => (True ∧ Below wr.heap.size wr w') ∧ w'.cell? ⟨b, o + j * 4 + 2, none⟩ = some (.string (markT (z + 1 + 1).toNat)) ∧ w'.cell? ⟨b, o + j * 4 + 3, none⟩ = some (.slice A1 xs[j].fIn.length c1))
        (first | exact ⟨⟨trivial, (Below.refl _ _).drew⟩, h2, hc3⟩ | exact keepM2 hlt hlt ‹_ ∧ _› ‹Below _ _ _›)
        ((go_at_call 62; refine (markText_i _ _ (by omega) (by omega)).mono ?_; rintro e wz ⟨rfl, hb6⟩))
      obtain ⟨⟨_, hB⟩, g2, g3⟩ := ‹(_ ∧ Below _ _ wz) ∧ _›
      have HR2 := hid (HR.out.below hB)
      have B2 := hid (below_trans BW.out hB)
      clear h0 h1 h2 hc3 hB g2
      go_wp2_with (go_at_call 64; refine (heldSettingS_ok A1 c1 xs[j].fIn.length (z + 1 + 1 + 1) _ HR2.out (by omega) (by omega) (by omega)).mono ?_; rintro e w9 ⟨rfl, hb⟩; have B9 := hid (below_trans B2.out hb); clear hb)
      go_roundw
      case rel => exact ⟨j + 1, z + 1 + 1 + 1 + 2 * (xs[j].fIn.length : Int), by omega, by go_num, rfl, by omega, by omega, HZN.out, B9.out⟩
      case measure => simp [intOf]; omega
    · have hj2 : j = xs.length := by omega
      subst hj2
      rw [List.take_length] at hze
      subst hze
      go_wp2_with fail
      go_ret
      exact ⟨rfl, hbel⟩

end Go.Proofs.YtmfadjdpbobfhaaDoor
