/- TrustBy: the reference. -/
import Derived.Test.YtfagfohcbdlaeaaTrust
import Derived.StillTailTactics
namespace Go.Proofs.Ytfagfohcbdlaeaa
open Go.RowKit
set_option linter.unusedVariables false

theorem one_vI (ns : List Int) (q : Nat) : ∀ u ∈ (ns.drop q).map (Value.int .i64), u.oneCell' = true := fun u hu => by
  obtain ⟨s, _, rfl⟩ := List.mem_map.1 hu
  rfl
set_option maxHeartbeats 800000 in
set_option maxRecDepth 100000 in
theorem l00Own_eq (g c q : Nat) (ns : List Int) (w : World) (hA : SrcAt w (some ⟨g, 0, none⟩) (ns.map (Value.int .i64))) (hg : g < w.heap.size) (hn : ns.length ≤ 1048576) (hq : ns.length = q) :
    Calls Try.prog 94 #[.slice (some ⟨g, 0, none⟩) q c] w fun e w' => (∃ A' c', e = .returned (.slice A' q c') ∧ w'.ownsRow w.heap.size 2 1 (.slice A' q c') q (ns.map (Value.int .i64))) ∧ Below w.heap.size w w' := by
  have HA := hid hA
  clear hA
  go_enter Try.func94, Try.ntmps94
  go_wp2_with (at_builtin; refine wpList_app_src (w0 := w) rfl (.tmp 3) (.tmp 4) 46 rfl w.heap.size 2 (.int .i64 0) 1 8 Try.underlying46 infoI rfl (by decide) _ 0 [] rfl (World.ownsRow_lit _ _ 0 (Nat.le_refl _) (by unfold maxLen; omega) rfl) (some ⟨g, 0, none⟩) q c (ns.map (Value.int .i64)) rfl (by simp [hq]) (fun h => by cases h) (HA.out.below (below_alloc _ _) hg) (by simp [Value.oneCell']) (by omega) (by simp) (below_alloc _ _) ?_; intro v4 w4 hown4 hbel4 hz4; rw [Nat.zero_add, List.nil_append] at hown4)
  go_ret
  have O4 := hid hown4
  rcases Nat.lt_or_ge 0 q with h0 | h0
  · obtain ⟨g4, c4, hv, _⟩ := own_form hown4 h0
    subst hv
    exact ⟨⟨_, _, rfl, hown4⟩, hbel4⟩
  · obtain ⟨h1, h2⟩ := hown4
    have hq0 : q = 0 := by omega
    subst hq0
    rcases h2 with ⟨rfl, _⟩ | ⟨g4, cap, cur, rfl, r⟩
    · exact ⟨⟨none, 0, rfl, O4.out⟩, hbel4⟩
    · exact ⟨⟨_, _, rfl, O4.out⟩, hbel4⟩
theorem trust_low {xs : List DPaper} {F : List Str} {k q : Nat} (h : k < xs.length) (hF : F = setOf (namesN (makN xs) k)) (hq : q ≤ F.length) (hr : ∀ j (hj : j < F.length), q ≤ j → xs[k].fMaker.data.toList < F[j]) (hl : ∀ j (hj : j < F.length), j < q → F[j] < xs[k].fMaker.data.toList) :
    F.take q ++ xs[k].fMaker.data.toList :: F.drop q = setOf (namesN (makN xs) (k + 1)) ∧ (sumsOf xs F k).take q ++ xs[k].fTrust :: (sumsOf xs F k).drop q = sumsOf xs (setOf (namesN (makN xs) (k + 1))) (k + 1) := by
  have hU : Up F := by rw [hF]; exact setOf_up _
  have hx : xs[k].fMaker.data.toList ∉ F := fun hm => by
    obtain ⟨i, hi, he⟩ := List.mem_iff_getElem.1 hm
    rcases Nat.lt_or_ge i q with h3 | h3
    · have := hl i hi h3
      rw [he] at this
      exact List.lt_irrefl _ this
    · have := hr i hi h3
      rw [he] at this
      exact List.lt_irrefl _ this
  have hx0 : trustOf xs xs[k].fMaker.data.toList k = 0 := trust_none k (by omega) (fun hm => hx (by rw [hF, setOf_mem]; exact hm))
  have e1 : F.take q ++ xs[k].fMaker.data.toList :: F.drop q = setOf (namesN (makN xs) (k + 1)) := by
    rw [namesN, makN_at h, setOf_snoc, ← hF, put_at hU hq hr (fun h0 => hl _ (by omega) (by omega))]
  have hz : ∀ z ∈ F, trustOf xs z (k + 1) = trustOf xs z k := fun z hm => by
    rw [trustOf_succ h, if_neg (fun e => hx (by rw [e]; exact hm)), Int.add_zero]
  refine ⟨e1, ?_⟩
  rw [← e1]
  unfold sumsOf
  rw [List.map_append, List.map_cons, ← List.map_take, ← List.map_drop, trustOf_succ h, if_pos rfl, hx0, Int.zero_add]
  congr 1
  · exact (List.map_congr_left fun z hm => hz z (List.mem_of_mem_take hm)).symm
  · congr 1
    exact (List.map_congr_left fun z hm => hz z (List.mem_of_mem_drop hm)).symm
theorem trust_has {xs : List DPaper} {F : List Str} {k q : Nat} (h : k < xs.length) (hF : F = setOf (namesN (makN xs) k)) (hq : q < F.length) (he : F[q] = xs[k].fMaker.data.toList) :
    setOf (namesN (makN xs) (k + 1)) = F ∧ sumsOf xs F (k + 1) = (sumsOf xs F k).set q (trustOf xs F[q] k + xs[k].fTrust) := by
  have hU : Up F := by rw [hF]; exact setOf_up _
  refine ⟨?_, sumsOf_set h hU hq he⟩
  rw [namesN, makN_at h, setOf_snoc, ← hF, putS_has hU (by rw [← he]; exact List.getElem_mem hq)]
theorem trust_beyond {F : List Str} {x : Str} {q : Nat} (hU : Up F) (h : ∀ hq : q < F.length, x < F[q]) : ∀ j (hj : j < F.length), q ≤ j → x < F[j] := fun j hj hqj => by
  rcases Nat.lt_or_ge q j with h3 | h3
  · exact List.lt_trans (h (by omega)) (up_get hU h3 hj)
  · have : j = q := by omega
    subst this
    exact h hj

set_option maxHeartbeats 6400000 in
set_option maxRecDepth 100000 in
theorem specTrust_ok (A : Option Addr) (c : Nat) (xs : List DPaper) (w : World) (hA : RowsAt w 5 A (xs.map DPaper.cells)) (hok : ∀ x ∈ xs, x.ok) (hn : xs.length ≤ 1048576) :
    Calls Try.prog 35 #[.slice A xs.length c] w (RetSI w (fTrust xs)) := by
  have HA := hid hA
  have HK := hid hok
  clear hA hok
  cases c1 : papersB xs
  · have HF := hid (show fTrust xs = ([], [], 1) by unfold fTrust; rw [if_pos c1])
    go_enter Try.func35, Try.ntmps35
    go_wp2_with fail
    refine (l20Ok_ok A c xs _ HA.out HK.out hn).mono ?_
    rintro e w1 ⟨rfl, hb⟩
    go_wp2_with fail
    go_ret3
    exact RetSI.nil HF.out hb
  have HF := hid (show fTrust xs = (setOf (namesN (makN xs) xs.length), sumsOf xs (setOf (namesN (makN xs) xs.length)) xs.length, 0) by unfold fTrust; rw [if_neg (by rw [c1]; exact fun h => by cases h)])
  have HH := hid (papersB_iff.1 c1)
  have h12 := HH.out.2
  go_enter Try.func35, Try.ntmps35
  go_wp2_with fail
  refine (l20Ok_ok A c xs _ HA.out HK.out hn).mono ?_
  rintro e w1 ⟨rfl, hb⟩
  have B1 := hid hb
  have HA := hid (HA.out.below B1.out)
  clear hb
  go_wp2_with fail
  go_loopw [5, 6, 7] (fun v v2 m wr => ∃ (k g cc g2 c2 M : Nat), k ≤ xs.length ∧ m = .int .i64 k ∧ v = .slice (some ⟨g, 0, none⟩) (setOf (namesN (makN xs) k)).length cc ∧ v2 = .slice (some ⟨g2, 0, none⟩) (setOf (namesN (makN xs) k)).length c2 ∧ wr.ownsRow w1.heap.size 9 1 (.slice (some ⟨g, 0, none⟩) (setOf (namesN (makN xs) k)).length cc) (setOf (namesN (makN xs) k)).length ((setOf (namesN (makN xs) k)).map vS) ∧ g < M ∧ wr.ownsRow M 2 1 (.slice (some ⟨g2, 0, none⟩) (setOf (namesN (makN xs) k)).length c2) (setOf (namesN (makN xs) k)).length ((sumsOf xs (setOf (namesN (makN xs) k)) k).map (Value.int .i64)) ∧ w1.heap.size ≤ M ∧ M ≤ wr.heap.size ∧ Below w1.heap.size w1 wr) (fun _ _ m _ => xs.length - (intOf m).toNat)
  case atStart =>
    refine ⟨0, w1.heap.size, 0, w1.heap.size + 1, 0, w1.heap.size + 1, Nat.zero_le _, rfl, rfl, rfl, (World.ownsRow_lit w1 #[] 0 (Nat.le_refl _) (by unfold maxLen; omega) rfl).alloc _, by omega, ?_, by omega, by simp, (below_alloc w1 _).trans ((below_alloc _ _).mono (by simp))⟩
    have h : ((w1.alloc (.cells #[] 9)).alloc (.cells #[] 2)).ownsRow (w1.alloc (.cells #[] 9)).heap.size 2 1 (.slice (some ⟨(w1.alloc (.cells #[] 9)).heap.size, 0, none⟩) 0 0) 0 (([] : List Int).map (Value.int .i64)) := World.ownsRow_lit _ _ 0 (Nat.le_refl _) (by unfold maxLen; omega) rfl
    rw [show (w1.alloc (.cells #[] 9)).heap.size = w1.heap.size + 1 by simp] at h
    exact h
  case round =>
    obtain ⟨k, g, cc, g2, c2, M, hk, rfl, rfl, rfl, hown, hgM, hown2, hM1, hM2, hbel⟩ := hrel
    have hsl := setOf_len (namesN (makN xs) k)
    have hnl : (namesN (makN xs) k).length ≤ 1 * k := namesN_len (makN_len xs) k
    obtain ⟨F, hF⟩ : ∃ F, F = setOf (namesN (makN xs) k) := ⟨_, rfl⟩
    rw [← hF] at hown hown2 hsl
    rw [← hF]
    have HFF := hid hF
    obtain ⟨hlc, hcm, _, hgw0⟩ := own_cap hown
    obtain ⟨hlc2, hcm2, hMg2, hgw2⟩ := own_cap hown2
    have HO := hid hown
    have HO2 := hid hown2
    have HB := hid hbel
    have hc3 : cc ≤ 9223372036854775807 := by unfold maxLen at hcm; omega
    have hcc2 : c2 ≤ 9223372036854775807 := by unfold maxLen at hcm2; omega
    clear hown hown2 hbel hF hcm hcm2
    by_cases hkl : k < xs.length
    · rename World => wo
      have hne : xs.map DPaper.cells ≠ [] := by intro e; rw [List.map_eq_nil_iff] at e; rw [e] at hkl; exact absurd hkl (by simp)
      obtain ⟨b, o, rfl, hlt, hc⟩ := (HA.out.below HB.out) hne
      have HC := hid hc
      have hc0 : wo.cell? ⟨b, o + k * 5, none⟩ = some (.string xs[k].fId) := HC.out k _ (by rw [List.getElem?_map, List.getElem?_eq_getElem hkl]; rfl) 0 _ rfl
      have hc1 : wo.cell? ⟨b, o + k * 5 + 1, none⟩ = some (.string xs[k].fMaker) := HC.out k _ (by rw [List.getElem?_map, List.getElem?_eq_getElem hkl]; rfl) 1 _ rfl
      have hc2 : wo.cell? ⟨b, o + k * 5 + 2, none⟩ = some (.int .i64 xs[k].fEarly) := HC.out k _ (by rw [List.getElem?_map, List.getElem?_eq_getElem hkl]; rfl) 2 _ rfl
      have hc3 : wo.cell? ⟨b, o + k * 5 + 3, none⟩ = some (.int .i64 xs[k].fLate) := HC.out k _ (by rw [List.getElem?_map, List.getElem?_eq_getElem hkl]; rfl) 3 _ rfl
      have hc4 : wo.cell? ⟨b, o + k * 5 + 4, none⟩ = some (.int .i64 xs[k].fTrust) := HC.out k _ (by rw [List.getElem?_map, List.getElem?_eq_getElem hkl]; rfl) 4 _ rfl
      have q0 : (0 : Int) ≤ (k : Int) := by omega
      have q1 : (k : Int) < xs.length := by omega
      clear hc hne
      have AX := hid (HA.out.below HB.out)
      have UF := hid (show Up F by rw [HFF.out]; exact setOf_up _)
      have h1w := HB.out.size
      go_wp2_with fail
      go_loopw [8] (fun v wr => ∃ q : Nat, q ≤ F.length ∧ v = .int .i64 q ∧ (∀ j (hj : j < F.length), j < q → F[j] < xs[k].fMaker.data.toList) ∧ Below wo.heap.size wo wr) (fun v _ => F.length - (intOf v).toNat)
      case atStart => exact ⟨0, Nat.zero_le _, rfl, fun j hj h => absurd h (Nat.not_lt_zero _), Below.refl _ _⟩
      case round =>
        obtain ⟨q, hq, rfl, hall, hbel⟩ := hrel
        have HL := hid hall
        have HW := hid hbel
        have BW := hid (below_up HB.out HB.out.size hbel)
        have hws := hbel.size
        clear hall hbel
        have x1 : wr.cell? ⟨b, o + k * 5 + 1, none⟩ = some (.string xs[k].fMaker) := (HW.out.cell (p := ⟨b, o + k * 5 + 1, none⟩) hlt).trans hc1
        have x4 : wr.cell? ⟨b, o + k * 5 + 4, none⟩ = some (.int .i64 xs[k].fTrust) := (HW.out.cell (p := ⟨b, o + k * 5 + 4, none⟩) hlt).trans hc4
        have hbw : b < wr.heap.size := Nat.lt_of_lt_of_le hlt hws
        have hgw : g < wr.heap.size := Nat.lt_of_lt_of_le hgw0 hws
        have hg2w : g2 < wr.heap.size := Nat.lt_of_lt_of_le hgw2 hws
        have ON := hid (own_below HO.out HW.out)
        have OS := hid (own_below HO2.out HW.out)
        have HWN := hid (own_src' ON.out)
        have HWS := hid (own_src' OS.out)
        have p0 : (0 : Int) ≤ (q : Int) := by omega
        have p1 : (q : Int) ≤ F.length := by omega
        have p2 : (q : Int) ≤ cc := by omega
        have p3 : (q : Int) ≤ c2 := by omega
        by_cases hql : q < F.length
        · have p4 : (q : Int) < F.length := by omega
          have n0 : wr.cell? ⟨g, q, none⟩ = some (.string (tB F[q])) := by
            rw [ON.out.cellAt q (by omega), List.getElem?_map, List.getElem?_eq_getElem hql]
            rfl
          by_cases l1 : F[q] < xs[k].fMaker.data.toList
          · have d1 : Op.bytesLess (tB F[q]).toList xs[k].fMaker.toList = true := by rw [less_iff]; exact decide_eq_true l1
            have HL2 := hid (show ∀ j (hj : j < F.length), j < q + 1 → F[j] < xs[k].fMaker.data.toList from fun j hj h => by
              rcases Nat.lt_or_ge j q with h3 | h3
              · exact HL.out j hj h3
              · have : j = q := by omega
                subst this
                exact l1)
            clear l1
            go_wp2_with fail
            go_quiet (fail)
            go_wp2_with fail
            go_roundw
            case rel => exact ⟨q + 1, by omega, by go_num, HL2.out, below_drewN' HW.out _⟩
            case measure => simp [intOf]; omega
          · have d1 : Op.bytesLess (tB F[q]).toList xs[k].fMaker.toList = false := by rw [less_iff]; exact decide_eq_false l1
            by_cases l2 : F[q] = xs[k].fMaker.data.toList
            · have d2 : ((tB F[q]).toList == xs[k].fMaker.toList) = true := by rw [beq_iff_eq, toList_tB, Lib.toList_data]; exact l2
              have HT := hid (trust_has hkl HFF.out hql l2)
              have tb := trustOf_bd F[q] HH.out.1 k hk
              have pt := paper_trust (HH.out.1 k hkl hkl).1
              obtain ⟨T, hT⟩ : ∃ T, T = trustOf xs F[q] k := ⟨_, rfl⟩
              have s0 : wr.cell? ⟨g2, q, none⟩ = some (.int .i64 T) := by
                rw [OS.out.cellAt q (by omega), List.getElem?_map, hT]
                unfold sumsOf
                rw [List.getElem?_map, List.getElem?_eq_getElem hql]
                rfl
              rw [← hT] at tb HT
              have w1' : IntKind.i64.wrap (T + xs[k].fTrust) = T + xs[k].fTrust := IntWalk.i64_in _ (by omega)
              clear l1 l2 hT
              go_wp2_with fail
              go_quiet (fail)
              rename Nat => na
              go_wp2_with fail
              go_quiet (fail)
              rename Nat => nb
              go_wp2_with fail
              refine wp_region_still_tail 11 (by kernel_rfl) (by kernel_rfl) ?_
              change wpStill _ _ (World.drew (World.drewN (World.drewN wr na) nb)) (fun a' => wpList _ _ _ _ a' (World.drew (World.drewN (World.drewN wr na) nb))) _ _
              generalize hwd : World.drew (World.drewN (World.drewN wr na) nb) = wd
              have W3 := hid (show Below wr.heap.size wr wd by rw [← hwd]; exact (below_drewN' (below_drewN' (Below.refl _ _) _) _).drew)
              clear hwd
              have y4 := (W3.out.cell (p := ⟨b, o + k * 5 + 4, none⟩) hbw).trans x4
              have z0 := (W3.out.cell (p := ⟨g2, q, none⟩) hg2w).trans s0
              have OS3 := hid (own_below OS.out W3.out)
              have gf : wd.frozen? ⟨g2, q, none⟩ = false := OS3.out.frozenAt q
              have W4 := hid (below_up BW.out BW.out.size W3.out)
              have ON3 := hid (own_low ON.out (fun g' hg' => by cases hg'; exact hgM) (Chg.setCell (p := ⟨g2, q, none⟩) ((Chg.refl M wr.heap.size wr).then_below W3.out) (.int .i64 (T + xs[k].fTrust)) hMg2 hg2w) (Nat.le_refl _))
              clear n0 d1 d2 x1 x4 s0
              simp only [List.take_succ_cons, List.take_zero, List.drop_succ_cons, List.drop_zero]
              repeat still_step
              try refine wpStill_nil ?_
              go_wp2_with fail
              go_roundw
              case rel =>
                have e := (OS3.out.stored q (.int .i64 (T + xs[k].fTrust))).1
                have ec := own_cap e
                rw [← List.map_set (f := Value.int .i64), ← HT.out.2] at e
                exact ⟨k + 1, g, cc, g2, c2, M, by omega, by go_num, by rw [HT.out.1]; first | done | rfl, by rw [HT.out.1]; first | done | rfl, by rw [HT.out.1]; exact ON3.out, hgM, by rw [HT.out.1]; exact e, hM1, by omega, W4.out.setCell (p := ⟨g2, q, none⟩) (show w1.heap.size ≤ g2 by omega) _⟩
              case measure => simp [intOf]; omega
            · have d2 : ((tB F[q]).toList == xs[k].fMaker.toList) = false := by
                rw [beq_eq_false_iff_ne, toList_tB, Lib.toList_data]
                exact l2
              have hlt2 : xs[k].fMaker.data.toList < F[q] := (str_lt_or_eq (List.not_lt.1 l1)).resolve_right fun e => l2 e.symm
              have HT := hid (trust_low hkl HFF.out hq (trust_beyond UF.out fun _ => hlt2) HL.out)
              clear l1 l2 hlt2
              go_wp2_with fail
              go_quiet (fail)
              go_wp2_with fail
              go_quiet (fail)
              have hcN : ¬ q = cc := by omega
              have hcS : ¬ q = c2 := by omega
              go_wp2_with (first | (at_builtin; refine wpList_app_src (w0 := w3') rfl (.tmp 97) (.tmp 100) 46 rfl w3'.heap.size 2 (.int .i64 0) 1 8 Try.underlying46 infoI rfl (by decide) _ (q + 1) _ rfl O5.out (some ⟨g2, q, none⟩) (F.length - q) (c2 - q) (((sumsOf xs F k).drop q).map (Value.int .i64)) rfl (by rw [List.length_map, List.length_drop, sumsOf_len]; omega) (fun h => by cases h) (by rw [List.map_drop]; have h := (HWS.out.below (B3.out.trans (B5.out.mono B3.out.size)) hg2w).drop q; rw [Nat.zero_add] at h; exact h) (one_vI _ q) (by omega) B5.out.size B5.out ?_; intro v6' w6' hown6 hb6 hz6; have O6 := hid hown6; have B6 := hid hb6; clear hown6 hb6) | (at_builtin; refine wpList_app (w0 := w3') rfl (.tmp 89) (.tmp 95) 46 rfl w3'.heap.size 2 (.int .i64 0) 1 8 Try.underlying46 infoI rfl (by decide) _ _ _ rfl O4.out #[.int .i64 xs[k].fTrust] 1 1 rfl rfl (by simp [Value.oneCell']) (by omega) B4.out.size B4.out ?_; intro v5' w5' hown5 hb5 hz5 _; have O5 := hid hown5; have B5 := hid hb5; clear hown5 hb5) | (go_at_call 94; refine (l00Own_eq g2 c2 q ((sumsOf xs F k).take q) w3' (by rw [List.map_take]; exact (HWS.out.below B3.out hg2w).take q) (Nat.lt_of_lt_of_le hg2w B3.out.size) (by rw [List.length_take, sumsOf_len]; omega) (by rw [List.length_take, sumsOf_len]; omega)).mono ?_; rintro e w4' ⟨⟨A4, c4, rfl, ho4⟩, hb4⟩; have O4 := hid ho4; have B4 := hid hb4; have m4 := ((below_trans B3.out hb4).cell (p := ⟨b, o + k * 5 + 4, none⟩) hbw).trans x4; clear ho4 hb4) | (at_builtin; refine wpList_app_src (w0 := wr) rfl (.tmp 80) (.tmp 83) 24 rfl wr.heap.size 9 (.string ⟨#[]⟩) 1 16 Try.underlying24 infoStr rfl (by decide) _ (q + 1) _ rfl O2.out (some ⟨g, q, none⟩) (F.length - q) (cc - q) ((F.drop q).map vS) rfl (by rw [List.length_map, List.length_drop]; omega) (fun h => by cases h) (by rw [List.map_drop]; have h := (HWN.out.below (B2.out) hgw).drop q; rw [Nat.zero_add] at h; exact h) (one_vS _) (by omega) B2.out.size B2.out ?_; intro v3' w3' hown3 hb3 hz3; have O3 := hid hown3; have B3 := hid hb3; clear hown3 hb3) | (at_builtin; refine wpList_app (w0 := wr) rfl (.tmp 72) (.tmp 78) 24 rfl wr.heap.size 9 (.string ⟨#[]⟩) 1 16 Try.underlying24 infoStr rfl (by decide) _ _ _ rfl O1.out #[.string xs[k].fMaker] 1 1 rfl rfl (by simp [Value.oneCell']) (by omega) B1'.out.size B1'.out ?_; intro v2' w2' hown2 hb2 hz2 _; have O2 := hid hown2; have B2 := hid hb2; clear hown2 hb2) | (at_builtin; refine wpList_app_src (w0 := wr) rfl (.tmp 67) (.tmp 70) 24 rfl wr.heap.size 9 (.string ⟨#[]⟩) 1 16 Try.underlying24 infoStr rfl (by decide) _ 0 [] rfl (World.ownsRow_lit _ _ 0 (Nat.le_refl _) (by unfold maxLen; omega) rfl) (some ⟨g, 0, none⟩) q cc ((F.take q).map vS) rfl (by rw [List.length_map, List.length_take]; omega) (fun h => by cases h) (by rw [List.map_take]; exact (HWN.out.below (below_trans (below_drewN' (Below.refl _ _) _) (below_alloc _ _)) hgw).take q) (one_vS _) (by omega) (below_trans (below_drewN' (Below.refl wr.heap.size wr) _) (below_alloc _ _)).size (below_trans (below_drewN' (Below.refl wr.heap.size wr) _) (below_alloc _ _)) ?_; intro v1' w1' hown1 hb1 hz1; simp only [Nat.zero_add, List.nil_append] at hown1; have O1 := hid hown1; have B1' := hid hb1; have m1 := (hb1.cell (p := ⟨b, o + k * 5 + 1, none⟩) hbw).trans x1; clear hown1 hb1))
              go_roundw
              case rel =>
                obtain ⟨g3, c3, hv3, _⟩ := own_form O3.out (by omega)
                obtain ⟨g6, c6, hv6, _⟩ := own_form O6.out (by omega)
                subst hv3
                subst hv6
                have hl3 : q + 1 + (F.length - q) = (setOf (namesN (makN xs) (k + 1))).length := by rw [← HT.out.1, List.length_append, List.length_cons, List.length_take, List.length_drop]; omega
                have hl6 : q + 1 + (F.length - q) = (setOf (namesN (makN xs) (k + 1))).length := by rw [← HT.out.1, List.length_append, List.length_cons, List.length_take, List.length_drop]; omega
                have h3 := own_below O3.out B6.out
                have h4 := own_lt O3.out g3 rfl
                have s3 := B3.out.size
                have s6 := B6.out.size
                refine ⟨k + 1, g3, c3, g6, c6, w3'.heap.size, by omega, by go_num, by rw [← hl3]; first | done | rfl, by rw [← hl6]; first | done | rfl, ?_, h4, ?_, by omega, s6, (BW.out.trans (B3.out.mono (by omega))).trans (B6.out.mono (by omega))⟩
                · have h := own_mono h3 (show w1.heap.size ≤ wr.heap.size by omega)
                  rw [hl3, List.append_assoc] at h
                  have e : (F.take q).map vS ++ ([Value.string xs[k].fMaker] ++ (F.drop q).map vS) = (setOf (namesN (makN xs) (k + 1))).map vS := by rw [← HT.out.1, List.map_append, List.map_cons, vS_data]; rfl
                  rw [← e]
                  exact h
                · have h := O6.out
                  rw [hl6, List.append_assoc] at h
                  have e : ((sumsOf xs F k).take q).map (Value.int .i64) ++ ([Value.int .i64 xs[k].fTrust] ++ ((sumsOf xs F k).drop q).map (Value.int .i64)) = (sumsOf xs (setOf (namesN (makN xs) (k + 1))) (k + 1)).map (Value.int .i64) := by rw [← HT.out.2, List.map_append, List.map_cons]; rfl
                  rw [← e]
                  exact h
              case measure => simp [intOf]; omega
        · have p4 : ¬ (q : Int) < F.length := by omega
          have HT := hid (trust_low hkl HFF.out hq (trust_beyond UF.out fun h => absurd h hql) HL.out)
          go_wp2_with fail
          go_quiet (fail)
          go_wp2_with fail
          go_quiet (fail)
          have hFq := hid (show F.length = q by omega)
          by_cases hcN : q = cc
          · subst hcN
            have HDN := hid (show (F.drop q).map vS = [] by rw [List.drop_of_length_le (by have := hFq.out; omega)]; rfl)
            by_cases hcS : q = c2
            · subst hcS
              have HDS := hid (show ((sumsOf xs F k).drop q).map (Value.int .i64) = [] by rw [List.drop_of_length_le (by rw [sumsOf_len]; have := hFq.out; omega)]; rfl)
              go_wp2_with (first | (at_builtin; refine wpList_app_src (w0 := w3') rfl (.tmp 97) (.tmp 100) 46 rfl w3'.heap.size 2 (.int .i64 0) 1 8 Try.underlying46 infoI rfl (by decide) _ (q + 1) _ rfl O5.out (some ⟨g2, 0, none⟩) (0) (0) (((sumsOf xs F k).drop q).map (Value.int .i64)) rfl (by rw [HDS.out]; rfl) (fun h => by cases h) (by rw [HDS.out]; exact SrcAt.nil _ _) (one_vI _ q) (by omega) B5.out.size B5.out ?_; intro v6' w6' hown6 hb6 hz6; have O6 := hid hown6; have B6 := hid hb6; clear hown6 hb6) | (at_builtin; refine wpList_app (w0 := w3') rfl (.tmp 89) (.tmp 95) 46 rfl w3'.heap.size 2 (.int .i64 0) 1 8 Try.underlying46 infoI rfl (by decide) _ _ _ rfl O4.out #[.int .i64 xs[k].fTrust] 1 1 rfl rfl (by simp [Value.oneCell']) (by omega) B4.out.size B4.out ?_; intro v5' w5' hown5 hb5 hz5 _; have O5 := hid hown5; have B5 := hid hb5; clear hown5 hb5) | (go_at_call 94; refine (l00Own_eq g2 q q ((sumsOf xs F k).take q) w3' (by rw [List.map_take]; exact (HWS.out.below B3.out hg2w).take q) (Nat.lt_of_lt_of_le hg2w B3.out.size) (by rw [List.length_take, sumsOf_len]; omega) (by rw [List.length_take, sumsOf_len]; omega)).mono ?_; rintro e w4' ⟨⟨A4, c4, rfl, ho4⟩, hb4⟩; have O4 := hid ho4; have B4 := hid hb4; have m4 := ((below_trans B3.out hb4).cell (p := ⟨b, o + k * 5 + 4, none⟩) hbw).trans x4; clear ho4 hb4) | (at_builtin; refine wpList_app_src (w0 := wr) rfl (.tmp 80) (.tmp 83) 24 rfl wr.heap.size 9 (.string ⟨#[]⟩) 1 16 Try.underlying24 infoStr rfl (by decide) _ (q + 1) _ rfl O2.out (some ⟨g, 0, none⟩) (0) (0) ((F.drop q).map vS) rfl (by rw [HDN.out]; rfl) (fun h => by cases h) (by rw [HDN.out]; exact SrcAt.nil _ _) (one_vS _) (by omega) B2.out.size B2.out ?_; intro v3' w3' hown3 hb3 hz3; have O3 := hid hown3; have B3 := hid hb3; clear hown3 hb3) | (at_builtin; refine wpList_app (w0 := wr) rfl (.tmp 72) (.tmp 78) 24 rfl wr.heap.size 9 (.string ⟨#[]⟩) 1 16 Try.underlying24 infoStr rfl (by decide) _ _ _ rfl O1.out #[.string xs[k].fMaker] 1 1 rfl rfl (by simp [Value.oneCell']) (by omega) B1'.out.size B1'.out ?_; intro v2' w2' hown2 hb2 hz2 _; have O2 := hid hown2; have B2 := hid hb2; clear hown2 hb2) | (at_builtin; refine wpList_app_src (w0 := wr) rfl (.tmp 67) (.tmp 70) 24 rfl wr.heap.size 9 (.string ⟨#[]⟩) 1 16 Try.underlying24 infoStr rfl (by decide) _ 0 [] rfl (World.ownsRow_lit _ _ 0 (Nat.le_refl _) (by unfold maxLen; omega) rfl) (some ⟨g, 0, none⟩) q q ((F.take q).map vS) rfl (by rw [List.length_map, List.length_take]; omega) (fun h => by cases h) (by rw [List.map_take]; exact (HWN.out.below (below_trans (below_drewN' (Below.refl _ _) _) (below_alloc _ _)) hgw).take q) (one_vS _) (by omega) (below_trans (below_drewN' (Below.refl wr.heap.size wr) _) (below_alloc _ _)).size (below_trans (below_drewN' (Below.refl wr.heap.size wr) _) (below_alloc _ _)) ?_; intro v1' w1' hown1 hb1 hz1; simp only [Nat.zero_add, List.nil_append] at hown1; have O1 := hid hown1; have B1' := hid hb1; have m1 := (hb1.cell (p := ⟨b, o + k * 5 + 1, none⟩) hbw).trans x1; clear hown1 hb1))
              go_roundw
              case rel =>
                obtain ⟨g3, c3, hv3, _⟩ := own_form O3.out (by omega)
                obtain ⟨g6, c6, hv6, _⟩ := own_form O6.out (by omega)
                subst hv3
                subst hv6
                have hl3 : q + 1 + (0) = (setOf (namesN (makN xs) (k + 1))).length := by rw [← HT.out.1, List.length_append, List.length_cons, List.length_take, List.length_drop]; omega
                have hl6 : q + 1 + (0) = (setOf (namesN (makN xs) (k + 1))).length := by rw [← HT.out.1, List.length_append, List.length_cons, List.length_take, List.length_drop]; omega
                have h3 := own_below O3.out B6.out
                have h4 := own_lt O3.out g3 rfl
                have s3 := B3.out.size
                have s6 := B6.out.size
                refine ⟨k + 1, g3, c3, g6, c6, w3'.heap.size, by omega, by go_num, by rw [← hl3]; first | done | rfl, by rw [← hl6]; first | done | rfl, ?_, h4, ?_, by omega, s6, (BW.out.trans (B3.out.mono (by omega))).trans (B6.out.mono (by omega))⟩
                · have h := own_mono h3 (show w1.heap.size ≤ wr.heap.size by omega)
                  rw [hl3, List.append_assoc] at h
                  have e : (F.take q).map vS ++ ([Value.string xs[k].fMaker] ++ (F.drop q).map vS) = (setOf (namesN (makN xs) (k + 1))).map vS := by rw [← HT.out.1, List.map_append, List.map_cons, vS_data]; rfl
                  rw [← e]
                  exact h
                · have h := O6.out
                  rw [hl6, List.append_assoc] at h
                  have e : ((sumsOf xs F k).take q).map (Value.int .i64) ++ ([Value.int .i64 xs[k].fTrust] ++ ((sumsOf xs F k).drop q).map (Value.int .i64)) = (sumsOf xs (setOf (namesN (makN xs) (k + 1))) (k + 1)).map (Value.int .i64) := by rw [← HT.out.2, List.map_append, List.map_cons]; rfl
                  rw [← e]
                  exact h
              case measure => simp [intOf]; omega
            · have HDS := hid (show ((sumsOf xs F k).drop q).map (Value.int .i64) = [] by rw [List.drop_of_length_le (by rw [sumsOf_len]; have := hFq.out; omega)]; rfl)
              go_wp2_with (first | (at_builtin; refine wpList_app_src (w0 := w3') rfl (.tmp 97) (.tmp 100) 46 rfl w3'.heap.size 2 (.int .i64 0) 1 8 Try.underlying46 infoI rfl (by decide) _ (q + 1) _ rfl O5.out (some ⟨g2, q, none⟩) (0) (c2 - q) (((sumsOf xs F k).drop q).map (Value.int .i64)) rfl (by rw [HDS.out]; rfl) (fun h => by cases h) (by rw [HDS.out]; exact SrcAt.nil _ _) (one_vI _ q) (by omega) B5.out.size B5.out ?_; intro v6' w6' hown6 hb6 hz6; have O6 := hid hown6; have B6 := hid hb6; clear hown6 hb6) | (at_builtin; refine wpList_app (w0 := w3') rfl (.tmp 89) (.tmp 95) 46 rfl w3'.heap.size 2 (.int .i64 0) 1 8 Try.underlying46 infoI rfl (by decide) _ _ _ rfl O4.out #[.int .i64 xs[k].fTrust] 1 1 rfl rfl (by simp [Value.oneCell']) (by omega) B4.out.size B4.out ?_; intro v5' w5' hown5 hb5 hz5 _; have O5 := hid hown5; have B5 := hid hb5; clear hown5 hb5) | (go_at_call 94; refine (l00Own_eq g2 c2 q ((sumsOf xs F k).take q) w3' (by rw [List.map_take]; exact (HWS.out.below B3.out hg2w).take q) (Nat.lt_of_lt_of_le hg2w B3.out.size) (by rw [List.length_take, sumsOf_len]; omega) (by rw [List.length_take, sumsOf_len]; omega)).mono ?_; rintro e w4' ⟨⟨A4, c4, rfl, ho4⟩, hb4⟩; have O4 := hid ho4; have B4 := hid hb4; have m4 := ((below_trans B3.out hb4).cell (p := ⟨b, o + k * 5 + 4, none⟩) hbw).trans x4; clear ho4 hb4) | (at_builtin; refine wpList_app_src (w0 := wr) rfl (.tmp 80) (.tmp 83) 24 rfl wr.heap.size 9 (.string ⟨#[]⟩) 1 16 Try.underlying24 infoStr rfl (by decide) _ (q + 1) _ rfl O2.out (some ⟨g, 0, none⟩) (0) (0) ((F.drop q).map vS) rfl (by rw [HDN.out]; rfl) (fun h => by cases h) (by rw [HDN.out]; exact SrcAt.nil _ _) (one_vS _) (by omega) B2.out.size B2.out ?_; intro v3' w3' hown3 hb3 hz3; have O3 := hid hown3; have B3 := hid hb3; clear hown3 hb3) | (at_builtin; refine wpList_app (w0 := wr) rfl (.tmp 72) (.tmp 78) 24 rfl wr.heap.size 9 (.string ⟨#[]⟩) 1 16 Try.underlying24 infoStr rfl (by decide) _ _ _ rfl O1.out #[.string xs[k].fMaker] 1 1 rfl rfl (by simp [Value.oneCell']) (by omega) B1'.out.size B1'.out ?_; intro v2' w2' hown2 hb2 hz2 _; have O2 := hid hown2; have B2 := hid hb2; clear hown2 hb2) | (at_builtin; refine wpList_app_src (w0 := wr) rfl (.tmp 67) (.tmp 70) 24 rfl wr.heap.size 9 (.string ⟨#[]⟩) 1 16 Try.underlying24 infoStr rfl (by decide) _ 0 [] rfl (World.ownsRow_lit _ _ 0 (Nat.le_refl _) (by unfold maxLen; omega) rfl) (some ⟨g, 0, none⟩) q q ((F.take q).map vS) rfl (by rw [List.length_map, List.length_take]; omega) (fun h => by cases h) (by rw [List.map_take]; exact (HWN.out.below (below_trans (below_drewN' (Below.refl _ _) _) (below_alloc _ _)) hgw).take q) (one_vS _) (by omega) (below_trans (below_drewN' (Below.refl wr.heap.size wr) _) (below_alloc _ _)).size (below_trans (below_drewN' (Below.refl wr.heap.size wr) _) (below_alloc _ _)) ?_; intro v1' w1' hown1 hb1 hz1; simp only [Nat.zero_add, List.nil_append] at hown1; have O1 := hid hown1; have B1' := hid hb1; have m1 := (hb1.cell (p := ⟨b, o + k * 5 + 1, none⟩) hbw).trans x1; clear hown1 hb1))
              go_roundw
              case rel =>
                obtain ⟨g3, c3, hv3, _⟩ := own_form O3.out (by omega)
                obtain ⟨g6, c6, hv6, _⟩ := own_form O6.out (by omega)
                subst hv3
                subst hv6
                have hl3 : q + 1 + (0) = (setOf (namesN (makN xs) (k + 1))).length := by rw [← HT.out.1, List.length_append, List.length_cons, List.length_take, List.length_drop]; omega
                have hl6 : q + 1 + (0) = (setOf (namesN (makN xs) (k + 1))).length := by rw [← HT.out.1, List.length_append, List.length_cons, List.length_take, List.length_drop]; omega
                have h3 := own_below O3.out B6.out
                have h4 := own_lt O3.out g3 rfl
                have s3 := B3.out.size
                have s6 := B6.out.size
                refine ⟨k + 1, g3, c3, g6, c6, w3'.heap.size, by omega, by go_num, by rw [← hl3]; first | done | rfl, by rw [← hl6]; first | done | rfl, ?_, h4, ?_, by omega, s6, (BW.out.trans (B3.out.mono (by omega))).trans (B6.out.mono (by omega))⟩
                · have h := own_mono h3 (show w1.heap.size ≤ wr.heap.size by omega)
                  rw [hl3, List.append_assoc] at h
                  have e : (F.take q).map vS ++ ([Value.string xs[k].fMaker] ++ (F.drop q).map vS) = (setOf (namesN (makN xs) (k + 1))).map vS := by rw [← HT.out.1, List.map_append, List.map_cons, vS_data]; rfl
                  rw [← e]
                  exact h
                · have h := O6.out
                  rw [hl6, List.append_assoc] at h
                  have e : ((sumsOf xs F k).take q).map (Value.int .i64) ++ ([Value.int .i64 xs[k].fTrust] ++ ((sumsOf xs F k).drop q).map (Value.int .i64)) = (sumsOf xs (setOf (namesN (makN xs) (k + 1))) (k + 1)).map (Value.int .i64) := by rw [← HT.out.2, List.map_append, List.map_cons]; rfl
                  rw [← e]
                  exact h
              case measure => simp [intOf]; omega
          · by_cases hcS : q = c2
            · subst hcS
              have HDN := hid (show (F.drop q).map vS = [] by rw [List.drop_of_length_le (by have := hFq.out; omega)]; rfl)
              have HDS := hid (show ((sumsOf xs F k).drop q).map (Value.int .i64) = [] by rw [List.drop_of_length_le (by rw [sumsOf_len]; have := hFq.out; omega)]; rfl)
              go_wp2_with (first | (at_builtin; refine wpList_app_src (w0 := w3') rfl (.tmp 97) (.tmp 100) 46 rfl w3'.heap.size 2 (.int .i64 0) 1 8 Try.underlying46 infoI rfl (by decide) _ (q + 1) _ rfl O5.out (some ⟨g2, 0, none⟩) (0) (0) (((sumsOf xs F k).drop q).map (Value.int .i64)) rfl (by rw [HDS.out]; rfl) (fun h => by cases h) (by rw [HDS.out]; exact SrcAt.nil _ _) (one_vI _ q) (by omega) B5.out.size B5.out ?_; intro v6' w6' hown6 hb6 hz6; have O6 := hid hown6; have B6 := hid hb6; clear hown6 hb6) | (at_builtin; refine wpList_app (w0 := w3') rfl (.tmp 89) (.tmp 95) 46 rfl w3'.heap.size 2 (.int .i64 0) 1 8 Try.underlying46 infoI rfl (by decide) _ _ _ rfl O4.out #[.int .i64 xs[k].fTrust] 1 1 rfl rfl (by simp [Value.oneCell']) (by omega) B4.out.size B4.out ?_; intro v5' w5' hown5 hb5 hz5 _; have O5 := hid hown5; have B5 := hid hb5; clear hown5 hb5) | (go_at_call 94; refine (l00Own_eq g2 q q ((sumsOf xs F k).take q) w3' (by rw [List.map_take]; exact (HWS.out.below B3.out hg2w).take q) (Nat.lt_of_lt_of_le hg2w B3.out.size) (by rw [List.length_take, sumsOf_len]; omega) (by rw [List.length_take, sumsOf_len]; omega)).mono ?_; rintro e w4' ⟨⟨A4, c4, rfl, ho4⟩, hb4⟩; have O4 := hid ho4; have B4 := hid hb4; have m4 := ((below_trans B3.out hb4).cell (p := ⟨b, o + k * 5 + 4, none⟩) hbw).trans x4; clear ho4 hb4) | (at_builtin; refine wpList_app_src (w0 := wr) rfl (.tmp 80) (.tmp 83) 24 rfl wr.heap.size 9 (.string ⟨#[]⟩) 1 16 Try.underlying24 infoStr rfl (by decide) _ (q + 1) _ rfl O2.out (some ⟨g, q, none⟩) (0) (cc - q) ((F.drop q).map vS) rfl (by rw [HDN.out]; rfl) (fun h => by cases h) (by rw [HDN.out]; exact SrcAt.nil _ _) (one_vS _) (by omega) B2.out.size B2.out ?_; intro v3' w3' hown3 hb3 hz3; have O3 := hid hown3; have B3 := hid hb3; clear hown3 hb3) | (at_builtin; refine wpList_app (w0 := wr) rfl (.tmp 72) (.tmp 78) 24 rfl wr.heap.size 9 (.string ⟨#[]⟩) 1 16 Try.underlying24 infoStr rfl (by decide) _ _ _ rfl O1.out #[.string xs[k].fMaker] 1 1 rfl rfl (by simp [Value.oneCell']) (by omega) B1'.out.size B1'.out ?_; intro v2' w2' hown2 hb2 hz2 _; have O2 := hid hown2; have B2 := hid hb2; clear hown2 hb2) | (at_builtin; refine wpList_app_src (w0 := wr) rfl (.tmp 67) (.tmp 70) 24 rfl wr.heap.size 9 (.string ⟨#[]⟩) 1 16 Try.underlying24 infoStr rfl (by decide) _ 0 [] rfl (World.ownsRow_lit _ _ 0 (Nat.le_refl _) (by unfold maxLen; omega) rfl) (some ⟨g, 0, none⟩) q cc ((F.take q).map vS) rfl (by rw [List.length_map, List.length_take]; omega) (fun h => by cases h) (by rw [List.map_take]; exact (HWN.out.below (below_trans (below_drewN' (Below.refl _ _) _) (below_alloc _ _)) hgw).take q) (one_vS _) (by omega) (below_trans (below_drewN' (Below.refl wr.heap.size wr) _) (below_alloc _ _)).size (below_trans (below_drewN' (Below.refl wr.heap.size wr) _) (below_alloc _ _)) ?_; intro v1' w1' hown1 hb1 hz1; simp only [Nat.zero_add, List.nil_append] at hown1; have O1 := hid hown1; have B1' := hid hb1; have m1 := (hb1.cell (p := ⟨b, o + k * 5 + 1, none⟩) hbw).trans x1; clear hown1 hb1))
              go_roundw
              case rel =>
                obtain ⟨g3, c3, hv3, _⟩ := own_form O3.out (by omega)
                obtain ⟨g6, c6, hv6, _⟩ := own_form O6.out (by omega)
                subst hv3
                subst hv6
                have hl3 : q + 1 + (0) = (setOf (namesN (makN xs) (k + 1))).length := by rw [← HT.out.1, List.length_append, List.length_cons, List.length_take, List.length_drop]; omega
                have hl6 : q + 1 + (0) = (setOf (namesN (makN xs) (k + 1))).length := by rw [← HT.out.1, List.length_append, List.length_cons, List.length_take, List.length_drop]; omega
                have h3 := own_below O3.out B6.out
                have h4 := own_lt O3.out g3 rfl
                have s3 := B3.out.size
                have s6 := B6.out.size
                refine ⟨k + 1, g3, c3, g6, c6, w3'.heap.size, by omega, by go_num, by rw [← hl3]; first | done | rfl, by rw [← hl6]; first | done | rfl, ?_, h4, ?_, by omega, s6, (BW.out.trans (B3.out.mono (by omega))).trans (B6.out.mono (by omega))⟩
                · have h := own_mono h3 (show w1.heap.size ≤ wr.heap.size by omega)
                  rw [hl3, List.append_assoc] at h
                  have e : (F.take q).map vS ++ ([Value.string xs[k].fMaker] ++ (F.drop q).map vS) = (setOf (namesN (makN xs) (k + 1))).map vS := by rw [← HT.out.1, List.map_append, List.map_cons, vS_data]; rfl
                  rw [← e]
                  exact h
                · have h := O6.out
                  rw [hl6, List.append_assoc] at h
                  have e : ((sumsOf xs F k).take q).map (Value.int .i64) ++ ([Value.int .i64 xs[k].fTrust] ++ ((sumsOf xs F k).drop q).map (Value.int .i64)) = (sumsOf xs (setOf (namesN (makN xs) (k + 1))) (k + 1)).map (Value.int .i64) := by rw [← HT.out.2, List.map_append, List.map_cons]; rfl
                  rw [← e]
                  exact h
              case measure => simp [intOf]; omega
            · skip
              go_wp2_with (first | (at_builtin; refine wpList_app_src (w0 := w3') rfl (.tmp 97) (.tmp 100) 46 rfl w3'.heap.size 2 (.int .i64 0) 1 8 Try.underlying46 infoI rfl (by decide) _ (q + 1) _ rfl O5.out (some ⟨g2, q, none⟩) (F.length - q) (c2 - q) (((sumsOf xs F k).drop q).map (Value.int .i64)) rfl (by rw [List.length_map, List.length_drop, sumsOf_len]; omega) (fun h => by cases h) (by rw [List.map_drop]; have h := (HWS.out.below (B3.out.trans (B5.out.mono B3.out.size)) hg2w).drop q; rw [Nat.zero_add] at h; exact h) (one_vI _ q) (by omega) B5.out.size B5.out ?_; intro v6' w6' hown6 hb6 hz6; have O6 := hid hown6; have B6 := hid hb6; clear hown6 hb6) | (at_builtin; refine wpList_app (w0 := w3') rfl (.tmp 89) (.tmp 95) 46 rfl w3'.heap.size 2 (.int .i64 0) 1 8 Try.underlying46 infoI rfl (by decide) _ _ _ rfl O4.out #[.int .i64 xs[k].fTrust] 1 1 rfl rfl (by simp [Value.oneCell']) (by omega) B4.out.size B4.out ?_; intro v5' w5' hown5 hb5 hz5 _; have O5 := hid hown5; have B5 := hid hb5; clear hown5 hb5) | (go_at_call 94; refine (l00Own_eq g2 c2 q ((sumsOf xs F k).take q) w3' (by rw [List.map_take]; exact (HWS.out.below B3.out hg2w).take q) (Nat.lt_of_lt_of_le hg2w B3.out.size) (by rw [List.length_take, sumsOf_len]; omega) (by rw [List.length_take, sumsOf_len]; omega)).mono ?_; rintro e w4' ⟨⟨A4, c4, rfl, ho4⟩, hb4⟩; have O4 := hid ho4; have B4 := hid hb4; have m4 := ((below_trans B3.out hb4).cell (p := ⟨b, o + k * 5 + 4, none⟩) hbw).trans x4; clear ho4 hb4) | (at_builtin; refine wpList_app_src (w0 := wr) rfl (.tmp 80) (.tmp 83) 24 rfl wr.heap.size 9 (.string ⟨#[]⟩) 1 16 Try.underlying24 infoStr rfl (by decide) _ (q + 1) _ rfl O2.out (some ⟨g, q, none⟩) (F.length - q) (cc - q) ((F.drop q).map vS) rfl (by rw [List.length_map, List.length_drop]; omega) (fun h => by cases h) (by rw [List.map_drop]; have h := (HWN.out.below (B2.out) hgw).drop q; rw [Nat.zero_add] at h; exact h) (one_vS _) (by omega) B2.out.size B2.out ?_; intro v3' w3' hown3 hb3 hz3; have O3 := hid hown3; have B3 := hid hb3; clear hown3 hb3) | (at_builtin; refine wpList_app (w0 := wr) rfl (.tmp 72) (.tmp 78) 24 rfl wr.heap.size 9 (.string ⟨#[]⟩) 1 16 Try.underlying24 infoStr rfl (by decide) _ _ _ rfl O1.out #[.string xs[k].fMaker] 1 1 rfl rfl (by simp [Value.oneCell']) (by omega) B1'.out.size B1'.out ?_; intro v2' w2' hown2 hb2 hz2 _; have O2 := hid hown2; have B2 := hid hb2; clear hown2 hb2) | (at_builtin; refine wpList_app_src (w0 := wr) rfl (.tmp 67) (.tmp 70) 24 rfl wr.heap.size 9 (.string ⟨#[]⟩) 1 16 Try.underlying24 infoStr rfl (by decide) _ 0 [] rfl (World.ownsRow_lit _ _ 0 (Nat.le_refl _) (by unfold maxLen; omega) rfl) (some ⟨g, 0, none⟩) q cc ((F.take q).map vS) rfl (by rw [List.length_map, List.length_take]; omega) (fun h => by cases h) (by rw [List.map_take]; exact (HWN.out.below (below_trans (below_drewN' (Below.refl _ _) _) (below_alloc _ _)) hgw).take q) (one_vS _) (by omega) (below_trans (below_drewN' (Below.refl wr.heap.size wr) _) (below_alloc _ _)).size (below_trans (below_drewN' (Below.refl wr.heap.size wr) _) (below_alloc _ _)) ?_; intro v1' w1' hown1 hb1 hz1; simp only [Nat.zero_add, List.nil_append] at hown1; have O1 := hid hown1; have B1' := hid hb1; have m1 := (hb1.cell (p := ⟨b, o + k * 5 + 1, none⟩) hbw).trans x1; clear hown1 hb1))
              go_roundw
              case rel =>
                obtain ⟨g3, c3, hv3, _⟩ := own_form O3.out (by omega)
                obtain ⟨g6, c6, hv6, _⟩ := own_form O6.out (by omega)
                subst hv3
                subst hv6
                have hl3 : q + 1 + (F.length - q) = (setOf (namesN (makN xs) (k + 1))).length := by rw [← HT.out.1, List.length_append, List.length_cons, List.length_take, List.length_drop]; omega
                have hl6 : q + 1 + (F.length - q) = (setOf (namesN (makN xs) (k + 1))).length := by rw [← HT.out.1, List.length_append, List.length_cons, List.length_take, List.length_drop]; omega
                have h3 := own_below O3.out B6.out
                have h4 := own_lt O3.out g3 rfl
                have s3 := B3.out.size
                have s6 := B6.out.size
                refine ⟨k + 1, g3, c3, g6, c6, w3'.heap.size, by omega, by go_num, by rw [← hl3]; first | done | rfl, by rw [← hl6]; first | done | rfl, ?_, h4, ?_, by omega, s6, (BW.out.trans (B3.out.mono (by omega))).trans (B6.out.mono (by omega))⟩
                · have h := own_mono h3 (show w1.heap.size ≤ wr.heap.size by omega)
                  rw [hl3, List.append_assoc] at h
                  have e : (F.take q).map vS ++ ([Value.string xs[k].fMaker] ++ (F.drop q).map vS) = (setOf (namesN (makN xs) (k + 1))).map vS := by rw [← HT.out.1, List.map_append, List.map_cons, vS_data]; rfl
                  rw [← e]
                  exact h
                · have h := O6.out
                  rw [hl6, List.append_assoc] at h
                  have e : ((sumsOf xs F k).take q).map (Value.int .i64) ++ ([Value.int .i64 xs[k].fTrust] ++ ((sumsOf xs F k).drop q).map (Value.int .i64)) = (sumsOf xs (setOf (namesN (makN xs) (k + 1))) (k + 1)).map (Value.int .i64) := by rw [← HT.out.2, List.map_append, List.map_cons]; rfl
                  rw [← e]
                  exact h
              case measure => simp [intOf]; omega
    · have hk2 : k = xs.length := by omega
      subst hk2
      go_wp2_with fail
      go_ret3
      have hl := sumsOf_len xs F xs.length
      rw [← HFF.out] at HF
      exact RetSI.own (l2 := sumsOf xs F xs.length) HF.out (own_mono HO.out B1.out.size) (fun g' hg' => by cases hg'; exact hgM) (by rw [hl]; exact HO2.out) HO.out (by have := B1.out.size; omega) hM2 (B1.out.trans (HB.out.mono B1.out.size)) B1.out.size

end Go.Proofs.Ytfagfohcbdlaeaa
