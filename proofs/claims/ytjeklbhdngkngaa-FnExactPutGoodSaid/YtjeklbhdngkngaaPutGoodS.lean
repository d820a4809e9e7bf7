/- PutGood: the walk of the reference. -/
import Derived.Test.YtjeklbhdngkngaaPutGood
namespace Go.Proofs.Ytjeklbhdngkngaa
open Go.RowKit
set_option linter.unusedVariables false

theorem goodW_gen (x : DGood) (b o : Nat) (w : World) (hx : x.ok) (k0 : w.cell? ⟨b, o, none⟩ = some (.string x.fId)) (k1 : w.cell? ⟨b, o + 1, none⟩ = some (.int .i64 x.fCount)) (k2 : w.cell? ⟨b, o + 2, none⟩ = some (.int .i64 x.fLeast)) (k3 : w.cell? ⟨b, o + 3, none⟩ = some (.int .i64 x.fPrice)) (v : Bool) (hv : goodD x = v) :
    Calls Try.prog 116 #[.pointer (some ⟨b, o, none⟩)] w fun e w' => e = .returned (.bool v) ∧ Below w.heap.size w w' := by
  subst hv
  exact goodW_ok x b o w hx k0 k1 k2 k3


theorem findG_none {xs : List DGood} {z : Str} (h : ∀ j (hj : j < xs.length), gn xs[j] ≠ z) : findG xs z = none := by
  unfold findG
  cases hx : xs[upG xs z]? with
  | none => rfl
  | some y =>
    obtain ⟨hl, rfl⟩ := List.getElem?_eq_some_iff.1 hx
    exact if_neg (h _ hl)

set_option maxHeartbeats 3200000 in
set_option maxRecDepth 100000 in
theorem specPutGood_ok (g0 : Nat) (xs : List DGood) (x : DGood) (w : World) (hA : RowsAt w 4 (some ⟨g0, 0, none⟩) (xs.map DGood.cells)) (hok : ∀ x ∈ xs, x.ok) (hn : xs.length ≤ 1048576) (hxo : x.ok) :
    Calls Try.prog 54 #[.slice (some ⟨g0, 0, none⟩) xs.length xs.length, .agg #[.string x.fId, .int .i64 x.fCount, .int .i64 x.fLeast, .int .i64 x.fPrice]] w (RetGoodC w (fPutGood xs x)) := by
  have OX0 := hid (World.ownsRow_lit (e := 86) (size := 4) w #[.string x.fId, .int .i64 x.fCount, .int .i64 x.fLeast, .int .i64 x.fPrice] 1 (Nat.le_refl _) (by unfold maxLen; omega) rfl)
  have BX0 := hid (below_alloc w (.cells #[.string x.fId, .int .i64 x.fCount, .int .i64 x.fLeast, .int .i64 x.fPrice] 86))
  have HA := hid (hA.below (below_alloc w (.cells #[.string x.fId, .int .i64 x.fCount, .int .i64 x.fLeast, .int .i64 x.fPrice] 86)))
  have HK := hid hok
  have hx := hid hxo
  clear hA hok hxo
  cases c1 : goodsB xs
  · have HF := hid (show fPutGood xs x = ([], 1) by unfold fPutGood; rw [if_pos (by rw [c1]; rfl)])
    go_enter Try.func54, Try.ntmps54
    go_wp2_with (go_at_call 115; refine (l26Ok_ok _ _ xs _ HA.out HK.out hn).mono ?_; rintro e w1 ⟨rfl, hb⟩; have BB1 := hid hb; have hz1 : w.heap.size + 1 ≤ w1.heap.size := (by have := hb.size; simpa using this); have B1 := hid (below_chain hb (Below.refl _ _)); have OX1 := hid (own_below OX0.out hb); have HA1 := hid (HA.out.below hb); clear hb; have k0 := OX1.out.cellAt 0 (by omega); have k1 := OX1.out.cellAt 1 (by omega); have k2 := OX1.out.cellAt 2 (by omega); have k3 := OX1.out.cellAt 3 (by omega); simp only [List.getElem?_cons_zero, List.getElem?_cons_succ] at k0 k1 k2 k3)
    go_ret2
    exact RetGoodC.nil HF.out B1.out
  cases c2 : goodD x
  · have HF := hid (show fPutGood xs x = ([], 1) by unfold fPutGood; rw [if_pos (by rw [c1, c2]; rfl)])
    go_enter Try.func54, Try.ntmps54
    go_wp2_with (first | (go_at_call 116; refine (goodW_ok x _ _ _ hx.out k0 k1 k2 k3).mono ?_; rintro e w2 ⟨rfl, hb⟩; have hz12 := hb.size; have B2 := hid (below_trans B1.out hb); have OX2 := hid (own_below OX1.out hb); have HA2 := hid (HA1.out.below hb); clear hb k0 k1 k2 k3) | (go_at_call 115; refine (l26Ok_ok _ _ xs _ HA.out HK.out hn).mono ?_; rintro e w1 ⟨rfl, hb⟩; have BB1 := hid hb; have hz1 : w.heap.size + 1 ≤ w1.heap.size := (by have := hb.size; simpa using this); have B1 := hid (below_chain hb (Below.refl _ _)); have OX1 := hid (own_below OX0.out hb); have HA1 := hid (HA.out.below hb); clear hb; have k0 := OX1.out.cellAt 0 (by omega); have k1 := OX1.out.cellAt 1 (by omega); have k2 := OX1.out.cellAt 2 (by omega); have k3 := OX1.out.cellAt 3 (by omega); simp only [List.getElem?_cons_zero, List.getElem?_cons_succ] at k0 k1 k2 k3))
    go_ret2
    exact RetGoodC.nil HF.out B2.out
  have HE := hid (show ¬ ((goodsB xs && goodD x) = false) by rw [c1, c2]; simp)
  have h16 := (goodsB_iff.1 c1).2
  have HT := hid (goodsB_iff.1 c1).1
  have HC1 := hid c1
  have HC2 := hid c2
  have HSB := hid (show ∀ w2 w', RowsAt w2 4 (some ⟨g0, 0, none⟩) (xs.map DGood.cells) → Below w2.heap.size w2 w' → SrcAt w' (some ⟨g0, 0, none⟩) (xs.map DGood.cells).flatten from fun w2 w' h hb => (h.below hb).src (cellsGood_len xs) (by omega))
  have HFL := hid (flatGood_length xs)
  go_enter Try.func54, Try.ntmps54
  go_wp2_with (first | (go_at_call 116; refine (goodW_ok x _ _ _ hx.out k0 k1 k2 k3).mono ?_; rintro e w2 ⟨rfl, hb⟩; have hz12 := hb.size; have B2 := hid (below_trans B1.out hb); have OX2 := hid (own_below OX1.out hb); have HA2 := hid (HA1.out.below hb); clear hb k0 k1 k2 k3; have k0 := OX2.out.cellAt 0 (by omega); have k1 := OX2.out.cellAt 1 (by omega); have k2 := OX2.out.cellAt 2 (by omega); have k3 := OX2.out.cellAt 3 (by omega); simp only [List.getElem?_cons_zero, List.getElem?_cons_succ] at k0 k1 k2 k3) | (go_at_call 115; refine (l26Ok_ok _ _ xs _ HA.out HK.out hn).mono ?_; rintro e w1 ⟨rfl, hb⟩; have BB1 := hid hb; have hz1 : w.heap.size + 1 ≤ w1.heap.size := (by have := hb.size; simpa using this); have B1 := hid (below_chain hb (Below.refl _ _)); have OX1 := hid (own_below OX0.out hb); have HA1 := hid (HA.out.below hb); clear hb; have k0 := OX1.out.cellAt 0 (by omega); have k1 := OX1.out.cellAt 1 (by omega); have k2 := OX1.out.cellAt 2 (by omega); have k3 := OX1.out.cellAt 3 (by omega); simp only [List.getElem?_cons_zero, List.getElem?_cons_succ] at k0 k1 k2 k3))
  have hz2 := B2.out.size
  refine (l26Find_ok _ _ xs x.fId _ HA2.out (by omega)).mono ?_
  rintro e w3 ⟨⟨r, rfl, hor⟩, rfl⟩
  rcases hor with ⟨rfl, hno⟩ | ⟨k, rfl, ⟨hkl, he⟩, hno⟩
  · have HFD := hid (show findG xs (gn x) = none from findG_none hno)
    have HNO := hid hno
    clear hno
    by_cases h6 : xs.length = 16
    · have HF := hid (show fPutGood xs x = ([], 5) by
        unfold fPutGood
        rw [if_neg HE.out, HFD.out]
        show (if xs.length = 16 then _ else _) = _
        rw [if_pos h6])
      have e3 : ((xs.length : Int) == 16) = true := by rw [beq_iff_eq]; omega
      clear h6
      go_wp2_with fail
      go_ret2
      exact RetGoodC.nil HF.out B2.out
    have HF5 := hid (show ∀ k, upG xs (gn x) = k → fPutGood xs x = (insGood xs k x, 0) from fun k hu => by
      unfold fPutGood
      rw [if_neg HE.out, HFD.out]
      show (if xs.length = 16 then _ else _) = _
      rw [if_neg h6, hu])
    have e3 : ((xs.length : Int) == 16) = false := by rw [beq_eq_false_iff_ne]; omega
    have e3' : ¬ ((xs.length : Int) = 16) := by omega
    clear h6
    go_wp2_with fail
    go_loopw [8] (fun v wr => ∃ k : Nat, k ≤ xs.length ∧ v = .int .i64 k ∧ (∀ j (h : j < xs.length), k ≤ j → gn x < gn xs[j]) ∧ Below w2.heap.size w2 wr) (fun v _ => (intOf v).toNat)
    case atStart => exact ⟨xs.length, Nat.le_refl _, rfl, fun j h hj => absurd h (by omega), Below.refl _ _⟩
    case round =>
      obtain ⟨k, hk, rfl, hall, hbel⟩ := hrel
      have HL := hid hall
      have BW := hid hbel
      have OXr := hid (own_below OX2.out hbel)
      have HAr := hid (HA2.out.below hbel)
      clear hall hbel k0 k1 k2 k3 e3 e3'
      have k0 := OXr.out.cellAt 0 (by omega)
      have k1 := OXr.out.cellAt 1 (by omega)
      have k2 := OXr.out.cellAt 2 (by omega)
      have k3 := OXr.out.cellAt 3 (by omega)
      simp only [List.getElem?_cons_zero, List.getElem?_cons_succ] at k0 k1 k2 k3
      have q0 : (0 : Int) ≤ (k : Int) := by omega
      have HTb := hid (show ∀ w', Below wr.heap.size wr w' → SrcAt w' (some ⟨g0, 0, none⟩) ((xs.map DGood.cells).flatten.take (k * 4)) from fun w' hb => ((HAr.out.below hb).src (cellsGood_len xs) (by omega)).take (k * 4))
      have HUb := hid (show ∀ w', Below wr.heap.size wr w' → SrcAt w' (some ⟨g0, k * 4, none⟩) ((xs.map DGood.cells).flatten.drop (k * 4)) from fun w' hb => by have := ((HAr.out.below hb).src (cellsGood_len xs) (by omega)).drop (k * 4); rw [Nat.zero_add] at this; exact this)
      have HKL := hid (Nat.mul_le_mul_right 4 hk)
      by_cases h0 : 0 < k
      · have hkl : k - 1 < xs.length := by omega
        have hyv : wr.cell? ⟨g0, (k - 1) * 4, none⟩ = some (.string xs[k - 1].fId) := HAr.out.at0 (k - 1) (by rw [List.getElem?_map, List.getElem?_eq_getElem hkl]; rfl) rfl
        have e0 : decide (0 < k) = true := by simp; omega
        have e2 : IntKind.i64.wrap ((k : Int) - 1) = (k : Int) - 1 := IntWalk.i64_in _ (by omega)
        have e4 : ((k : Int) - 1).toNat = k - 1 := by omega
        have e5 : (k : Int) - 1 < xs.length := by omega
        have e6 : (1 : Int) ≤ (k : Int) := by omega
        have e7 : (0 : Int) ≤ (k : Int) - 1 := by omega
        have d2 : (xs[k - 1].fId.toList == x.fId.toList) = false := by rw [beq_eq_false_iff_ne, Lib.toList_data, Lib.toList_data]; exact HNO.out (k - 1) hkl
        rcases str_three (gn xs[k - 1]) (gn x) with h | h | h
        · have d1 : Op.bytesLess xs[k - 1].fId.toList x.fId.toList = true := by rw [less_iff]; exact decide_eq_true h
          have HF := hid (HF5.out k (findG_no hk (fun j hj hjk => by
            rcases Nat.lt_or_ge j (k - 1) with h3 | h3
            · exact List.lt_trans (gn_lt HT.out (k - 1) hkl j h3) h
            · have : j = k - 1 := by omega
              subst this
              exact h) HL.out).1)
          clear h
          go_wp2_with fail
          go_quiet (fail)
          clear hyv e2 e4 e5 e6 e7 d1 d2 e0 h0
          rcases Nat.lt_or_ge k xs.length with hkn | hkn
          · have hne : ¬ (xs.length = k) := by omega
            have x1 : (k : Int) ≤ xs.length := by omega
            go_wp2_with (first | (at_builtin; refine wpList_app_src (w0 := wr) rfl (.tmp 62) (.tmp 65) 82 rfl wr.heap.size 86 (.agg #[.string ⟨#[]⟩, .int .i64 0, .int .i64 0, .int .i64 0]) 4 40 Try.underlying82 infoGood rfl (by decide) _ 0 [] rfl (World.ownsRow_lit _ _ 0 (by simp) (by unfold maxLen; omega) rfl) (some ⟨g0, 0, none⟩) k xs.length ((xs.map DGood.cells).flatten.take (k * 4)) rfl (by have := HFL.out; have := HKL.out; rw [List.length_take]; omega) (fun h => by cases h) (HTb.out _ (by first | exact Below.refl _ _ | exact (Below.refl _ _).drew | exact below_drewN' (Below.refl _ _) _ | exact (below_drewN' (Below.refl _ _) _).drew | exact (below_drewN' (Below.refl _ _) _).alloc (Nat.le_refl _) _ | exact below_drewN' (below_alloc _ _) _ | exact (below_drewN' (below_alloc _ _) _).drew | exact ((below_drewN' (Below.refl _ _) _).alloc (Nat.le_refl _) _).drew | exact (below_drewN' (Below.refl _ _) _).drew.alloc (Nat.le_refl _) _)) (fun u hu => oneGood xs u (List.mem_of_mem_take hu)) (by omega) (by simp) (by first | exact Below.refl _ _ | exact (Below.refl _ _).drew | exact below_drewN' (Below.refl _ _) _ | exact (below_drewN' (Below.refl _ _) _).drew | exact (below_drewN' (Below.refl _ _) _).alloc (Nat.le_refl _) _ | exact below_drewN' (below_alloc _ _) _ | exact (below_drewN' (below_alloc _ _) _).drew | exact ((below_drewN' (Below.refl _ _) _).alloc (Nat.le_refl _) _).drew | exact (below_drewN' (Below.refl _ _) _).drew.alloc (Nat.le_refl _) _) ?_; intro v1 w5 hown1 hb1 hz1; simp only [Nat.zero_add, List.nil_append] at hown1; have OXb := hid (own_below OXr.out hb1); clear k0 k1 k2 k3; have k0 := OXb.out.cellAt 0 (by omega); have k1 := OXb.out.cellAt 1 (by omega); have k2 := OXb.out.cellAt 2 (by omega); have k3 := OXb.out.cellAt 3 (by omega); simp only [List.getElem?_cons_zero, List.getElem?_cons_succ] at k0 k1 k2 k3) | (at_builtin; refine wpList_app (w0 := wr) rfl (.tmp 67) (.tmp 69) 82 rfl wr.heap.size 86 (.agg #[.string ⟨#[]⟩, .int .i64 0, .int .i64 0, .int .i64 0]) 4 40 Try.underlying82 infoGood rfl (by decide) _ k _ rfl hown1 #[.string x.fId, .int .i64 x.fCount, .int .i64 x.fLeast, .int .i64 x.fPrice] 1 1 rfl rfl (by intro u hu; exact oneGood [x] u (by simpa [DGood.cells] using hu)) (by omega) hb1.size hb1 ?_; intro v2 w6 hown2 hb2 hz2b hgr2; clear hgr2 k0 k1 k2 k3) | (at_builtin; refine wpList_app_src (w0 := wr) rfl (.tmp 71) (.tmp 74) 82 rfl wr.heap.size 86 (.agg #[.string ⟨#[]⟩, .int .i64 0, .int .i64 0, .int .i64 0]) 4 40 Try.underlying82 infoGood rfl (by decide) _ (k + 1) _ rfl hown2 (some ⟨g0, k * 4, none⟩) (xs.length - k) (xs.length - k) ((xs.map DGood.cells).flatten.drop (k * 4)) rfl (by have := HFL.out; rw [List.length_drop]; omega) (fun h => by cases h) (HUb.out _ hb2) (fun u hu => oneGood xs u (List.mem_of_mem_drop hu)) (by omega) hb2.size hb2 ?_; intro v3 w8 hown3 hb3 hz3))
            go_ret2
            refine RetGoodC.own (v := v3) (n := k + 1 + (xs.length - k)) HF.out (by rw [insGood_length hk]; omega) (own_mono (B := wr.heap.size) ?_ (by have := BW.out.size; omega)) ((B2.out.trans (BW.out.mono hz2)).trans (hb3.mono (by have := BW.out.size; omega)))
            rw [insGood_flat]
            exact hown3
          · obtain rfl : k = xs.length := by omega
            go_wp2_with (first | (at_builtin; refine wpList_app_src (w0 := wr) rfl (.tmp 62) (.tmp 65) 82 rfl wr.heap.size 86 (.agg #[.string ⟨#[]⟩, .int .i64 0, .int .i64 0, .int .i64 0]) 4 40 Try.underlying82 infoGood rfl (by decide) _ 0 [] rfl (World.ownsRow_lit _ _ 0 (by simp) (by unfold maxLen; omega) rfl) (some ⟨g0, 0, none⟩) xs.length xs.length ((xs.map DGood.cells).flatten.take (xs.length * 4)) rfl (by have := HFL.out; have := HKL.out; rw [List.length_take]; omega) (fun h => by cases h) (HTb.out _ (by first | exact Below.refl _ _ | exact (Below.refl _ _).drew | exact below_drewN' (Below.refl _ _) _ | exact (below_drewN' (Below.refl _ _) _).drew | exact (below_drewN' (Below.refl _ _) _).alloc (Nat.le_refl _) _ | exact below_drewN' (below_alloc _ _) _ | exact (below_drewN' (below_alloc _ _) _).drew | exact ((below_drewN' (Below.refl _ _) _).alloc (Nat.le_refl _) _).drew | exact (below_drewN' (Below.refl _ _) _).drew.alloc (Nat.le_refl _) _)) (fun u hu => oneGood xs u (List.mem_of_mem_take hu)) (by omega) (by simp) (by first | exact Below.refl _ _ | exact (Below.refl _ _).drew | exact below_drewN' (Below.refl _ _) _ | exact (below_drewN' (Below.refl _ _) _).drew | exact (below_drewN' (Below.refl _ _) _).alloc (Nat.le_refl _) _ | exact below_drewN' (below_alloc _ _) _ | exact (below_drewN' (below_alloc _ _) _).drew | exact ((below_drewN' (Below.refl _ _) _).alloc (Nat.le_refl _) _).drew | exact (below_drewN' (Below.refl _ _) _).drew.alloc (Nat.le_refl _) _) ?_; intro v1 w5 hown1 hb1 hz1; simp only [Nat.zero_add, List.nil_append] at hown1; have OXb := hid (own_below OXr.out hb1); clear k0 k1 k2 k3; have k0 := OXb.out.cellAt 0 (by omega); have k1 := OXb.out.cellAt 1 (by omega); have k2 := OXb.out.cellAt 2 (by omega); have k3 := OXb.out.cellAt 3 (by omega); simp only [List.getElem?_cons_zero, List.getElem?_cons_succ] at k0 k1 k2 k3) | (at_builtin; refine wpList_app (w0 := wr) rfl (.tmp 67) (.tmp 69) 82 rfl wr.heap.size 86 (.agg #[.string ⟨#[]⟩, .int .i64 0, .int .i64 0, .int .i64 0]) 4 40 Try.underlying82 infoGood rfl (by decide) _ xs.length _ rfl hown1 #[.string x.fId, .int .i64 x.fCount, .int .i64 x.fLeast, .int .i64 x.fPrice] 1 1 rfl rfl (by intro u hu; exact oneGood [x] u (by simpa [DGood.cells] using hu)) (by omega) hb1.size hb1 ?_; intro v2 w6 hown2 hb2 hz2b hgr2; clear hgr2 k0 k1 k2 k3) | (at_builtin; refine wpList_app_src (w0 := wr) rfl (.tmp 71) (.tmp 74) 82 rfl wr.heap.size 86 (.agg #[.string ⟨#[]⟩, .int .i64 0, .int .i64 0, .int .i64 0]) 4 40 Try.underlying82 infoGood rfl (by decide) _ (xs.length + 1) _ rfl hown2 (some ⟨g0, 0, none⟩) 0 0 [] rfl rfl (fun h => by cases h) (SrcAt.nil _ _) (fun u hu => by cases hu) (by omega) hb2.size hb2 ?_; intro v3 w8 hown3 hb3 hz3))
            go_ret2
            refine RetGoodC.own (v := v3) (n := xs.length + 1 + 0) HF.out (by rw [insGood_length hk]) (own_mono (B := wr.heap.size) ?_ (by have := BW.out.size; omega)) ((B2.out.trans (BW.out.mono hz2)).trans (hb3.mono (by have := BW.out.size; omega)))
            rw [insGood_flat]
            rw [List.drop_of_length_le (by rw [HFL.out]; exact Nat.le_refl _)]; exact hown3
        · exact absurd h (HNO.out (k - 1) hkl)
        · have d1 : Op.bytesLess xs[k - 1].fId.toList x.fId.toList = false := by rw [less_iff]; exact decide_eq_false (fun h2 => List.lt_irrefl _ (List.lt_trans h h2))
          have HS := hid (show ∀ j (hj : j < xs.length), k - 1 ≤ j → gn x < gn xs[j] from fun j hj hkj => by
            rcases Nat.lt_or_ge j k with h3 | h3
            · have : j = k - 1 := by omega
              subst this
              exact h
            · exact HL.out j hj h3)
          clear h
          go_wp2_with fail
          go_quiet (fail)
          go_wp2_with fail
          go_roundw
          case rel => exact ⟨k - 1, by omega, by go_num, HS.out, below_drewN' BW.out _⟩
          case measure => simp [intOf]; omega
      · have hk0 : k = 0 := by omega
        have HF := hid (HF5.out k (findG_no hk (fun j hj hjk => absurd hjk (by omega)) HL.out).1)
        have e0 : decide (0 < k) = false := by simp; omega
        clear hk0 h0
        go_wp2_with fail
        go_quiet (fail)
        clear e0
        rcases Nat.lt_or_ge k xs.length with hkn | hkn
        · have hne : ¬ (xs.length = k) := by omega
          have x1 : (k : Int) ≤ xs.length := by omega
          go_wp2_with (first | (at_builtin; refine wpList_app_src (w0 := wr) rfl (.tmp 62) (.tmp 65) 82 rfl wr.heap.size 86 (.agg #[.string ⟨#[]⟩, .int .i64 0, .int .i64 0, .int .i64 0]) 4 40 Try.underlying82 infoGood rfl (by decide) _ 0 [] rfl (World.ownsRow_lit _ _ 0 (by simp) (by unfold maxLen; omega) rfl) (some ⟨g0, 0, none⟩) k xs.length ((xs.map DGood.cells).flatten.take (k * 4)) rfl (by have := HFL.out; have := HKL.out; rw [List.length_take]; omega) (fun h => by cases h) (HTb.out _ (by first | exact Below.refl _ _ | exact (Below.refl _ _).drew | exact below_drewN' (Below.refl _ _) _ | exact (below_drewN' (Below.refl _ _) _).drew | exact (below_drewN' (Below.refl _ _) _).alloc (Nat.le_refl _) _ | exact below_drewN' (below_alloc _ _) _ | exact (below_drewN' (below_alloc _ _) _).drew | exact ((below_drewN' (Below.refl _ _) _).alloc (Nat.le_refl _) _).drew | exact (below_drewN' (Below.refl _ _) _).drew.alloc (Nat.le_refl _) _)) (fun u hu => oneGood xs u (List.mem_of_mem_take hu)) (by omega) (by simp) (by first | exact Below.refl _ _ | exact (Below.refl _ _).drew | exact below_drewN' (Below.refl _ _) _ | exact (below_drewN' (Below.refl _ _) _).drew | exact (below_drewN' (Below.refl _ _) _).alloc (Nat.le_refl _) _ | exact below_drewN' (below_alloc _ _) _ | exact (below_drewN' (below_alloc _ _) _).drew | exact ((below_drewN' (Below.refl _ _) _).alloc (Nat.le_refl _) _).drew | exact (below_drewN' (Below.refl _ _) _).drew.alloc (Nat.le_refl _) _) ?_; intro v1 w5 hown1 hb1 hz1; simp only [Nat.zero_add, List.nil_append] at hown1; have OXb := hid (own_below OXr.out hb1); clear k0 k1 k2 k3; have k0 := OXb.out.cellAt 0 (by omega); have k1 := OXb.out.cellAt 1 (by omega); have k2 := OXb.out.cellAt 2 (by omega); have k3 := OXb.out.cellAt 3 (by omega); simp only [List.getElem?_cons_zero, List.getElem?_cons_succ] at k0 k1 k2 k3) | (at_builtin; refine wpList_app (w0 := wr) rfl (.tmp 67) (.tmp 69) 82 rfl wr.heap.size 86 (.agg #[.string ⟨#[]⟩, .int .i64 0, .int .i64 0, .int .i64 0]) 4 40 Try.underlying82 infoGood rfl (by decide) _ k _ rfl hown1 #[.string x.fId, .int .i64 x.fCount, .int .i64 x.fLeast, .int .i64 x.fPrice] 1 1 rfl rfl (by intro u hu; exact oneGood [x] u (by simpa [DGood.cells] using hu)) (by omega) hb1.size hb1 ?_; intro v2 w6 hown2 hb2 hz2b hgr2; clear hgr2 k0 k1 k2 k3) | (at_builtin; refine wpList_app_src (w0 := wr) rfl (.tmp 71) (.tmp 74) 82 rfl wr.heap.size 86 (.agg #[.string ⟨#[]⟩, .int .i64 0, .int .i64 0, .int .i64 0]) 4 40 Try.underlying82 infoGood rfl (by decide) _ (k + 1) _ rfl hown2 (some ⟨g0, k * 4, none⟩) (xs.length - k) (xs.length - k) ((xs.map DGood.cells).flatten.drop (k * 4)) rfl (by have := HFL.out; rw [List.length_drop]; omega) (fun h => by cases h) (HUb.out _ hb2) (fun u hu => oneGood xs u (List.mem_of_mem_drop hu)) (by omega) hb2.size hb2 ?_; intro v3 w8 hown3 hb3 hz3))
          go_ret2
          refine RetGoodC.own (v := v3) (n := k + 1 + (xs.length - k)) HF.out (by rw [insGood_length hk]; omega) (own_mono (B := wr.heap.size) ?_ (by have := BW.out.size; omega)) ((B2.out.trans (BW.out.mono hz2)).trans (hb3.mono (by have := BW.out.size; omega)))
          rw [insGood_flat]
          exact hown3
        · obtain rfl : k = xs.length := by omega
          go_wp2_with (first | (at_builtin; refine wpList_app_src (w0 := wr) rfl (.tmp 62) (.tmp 65) 82 rfl wr.heap.size 86 (.agg #[.string ⟨#[]⟩, .int .i64 0, .int .i64 0, .int .i64 0]) 4 40 Try.underlying82 infoGood rfl (by decide) _ 0 [] rfl (World.ownsRow_lit _ _ 0 (by simp) (by unfold maxLen; omega) rfl) (some ⟨g0, 0, none⟩) xs.length xs.length ((xs.map DGood.cells).flatten.take (xs.length * 4)) rfl (by have := HFL.out; have := HKL.out; rw [List.length_take]; omega) (fun h => by cases h) (HTb.out _ (by first | exact Below.refl _ _ | exact (Below.refl _ _).drew | exact below_drewN' (Below.refl _ _) _ | exact (below_drewN' (Below.refl _ _) _).drew | exact (below_drewN' (Below.refl _ _) _).alloc (Nat.le_refl _) _ | exact below_drewN' (below_alloc _ _) _ | exact (below_drewN' (below_alloc _ _) _).drew | exact ((below_drewN' (Below.refl _ _) _).alloc (Nat.le_refl _) _).drew | exact (below_drewN' (Below.refl _ _) _).drew.alloc (Nat.le_refl _) _)) (fun u hu => oneGood xs u (List.mem_of_mem_take hu)) (by omega) (by simp) (by first | exact Below.refl _ _ | exact (Below.refl _ _).drew | exact below_drewN' (Below.refl _ _) _ | exact (below_drewN' (Below.refl _ _) _).drew | exact (below_drewN' (Below.refl _ _) _).alloc (Nat.le_refl _) _ | exact below_drewN' (below_alloc _ _) _ | exact (below_drewN' (below_alloc _ _) _).drew | exact ((below_drewN' (Below.refl _ _) _).alloc (Nat.le_refl _) _).drew | exact (below_drewN' (Below.refl _ _) _).drew.alloc (Nat.le_refl _) _) ?_; intro v1 w5 hown1 hb1 hz1; simp only [Nat.zero_add, List.nil_append] at hown1; have OXb := hid (own_below OXr.out hb1); clear k0 k1 k2 k3; have k0 := OXb.out.cellAt 0 (by omega); have k1 := OXb.out.cellAt 1 (by omega); have k2 := OXb.out.cellAt 2 (by omega); have k3 := OXb.out.cellAt 3 (by omega); simp only [List.getElem?_cons_zero, List.getElem?_cons_succ] at k0 k1 k2 k3) | (at_builtin; refine wpList_app (w0 := wr) rfl (.tmp 67) (.tmp 69) 82 rfl wr.heap.size 86 (.agg #[.string ⟨#[]⟩, .int .i64 0, .int .i64 0, .int .i64 0]) 4 40 Try.underlying82 infoGood rfl (by decide) _ xs.length _ rfl hown1 #[.string x.fId, .int .i64 x.fCount, .int .i64 x.fLeast, .int .i64 x.fPrice] 1 1 rfl rfl (by intro u hu; exact oneGood [x] u (by simpa [DGood.cells] using hu)) (by omega) hb1.size hb1 ?_; intro v2 w6 hown2 hb2 hz2b hgr2; clear hgr2 k0 k1 k2 k3) | (at_builtin; refine wpList_app_src (w0 := wr) rfl (.tmp 71) (.tmp 74) 82 rfl wr.heap.size 86 (.agg #[.string ⟨#[]⟩, .int .i64 0, .int .i64 0, .int .i64 0]) 4 40 Try.underlying82 infoGood rfl (by decide) _ (xs.length + 1) _ rfl hown2 (some ⟨g0, 0, none⟩) 0 0 [] rfl rfl (fun h => by cases h) (SrcAt.nil _ _) (fun u hu => by cases hu) (by omega) hb2.size hb2 ?_; intro v3 w8 hown3 hb3 hz3))
          go_ret2
          refine RetGoodC.own (v := v3) (n := xs.length + 1 + 0) HF.out (by rw [insGood_length hk]) (own_mono (B := wr.heap.size) ?_ (by have := BW.out.size; omega)) ((B2.out.trans (BW.out.mono hz2)).trans (hb3.mono (by have := BW.out.size; omega)))
          rw [insGood_flat]
          rw [List.drop_of_length_le (by rw [HFL.out]; exact Nat.le_refl _)]; exact hown3
  · obtain ⟨hup, hfd⟩ := findG_yes hkl (fun j hj hjk => gn_before HT.out hkl he j hj hjk) he
    have HUP := hid (show upG xs (gn x) = k from hup)
    have HFD := hid (show findG xs (gn x) = some xs[k] from hfd)
    obtain ⟨yc, hyc⟩ : ∃ yc, yc = xs[k].fCount := ⟨_, rfl⟩
    have hg1' := (good_in c2).2.1
    have hg2' := (good_in (HT.out k hkl hkl).1).2.1
    rw [← hyc] at hg2'
    have hok1 := hid (good_add c2 (HT.out k hkl hkl).1)
    have w1 : IntKind.i64.wrap (x.fCount + yc) = x.fCount + yc := IntWalk.i64_in _ (by omega)
    have q0 : (0 : Int) ≤ (k : Int) := by omega
    have q1 : (k : Int) < xs.length := by omega
    have HYC := hid hyc
    clear hyc he hup hfd hno
    go_wp2_with (at_builtin; refine wpList_app_src (w0 := w2) rfl (.tmp 23) (.tmp 24) 82 rfl w2.heap.size 86 (.agg #[.string ⟨#[]⟩, .int .i64 0, .int .i64 0, .int .i64 0]) 4 40 Try.underlying82 infoGood rfl (by decide) _ 0 [] rfl (World.ownsRow_lit _ _ 0 (by simp) (by unfold maxLen; omega) rfl) (some ⟨g0, 0, none⟩) xs.length xs.length (xs.map DGood.cells).flatten rfl HFL.out (fun h => by cases h) (HSB.out _ _ HA2.out (by first | exact Below.refl _ _ | exact below_alloc _ _ | exact below_drewN' (Below.refl _ _) _ | exact below_drewN' (below_alloc _ _) _ | exact (below_drewN' (Below.refl _ _) _).alloc (Nat.le_refl _) _)) (fun u hu => oneGood xs u hu) (by omega) (by simp) (by first | exact Below.refl _ _ | exact below_alloc _ _ | exact below_drewN' (Below.refl _ _) _ | exact below_drewN' (below_alloc _ _) _ | exact (below_drewN' (Below.refl _ _) _).alloc (Nat.le_refl _) _) ?_; intro v1 w5 hown1 hb1 hz1; simp only [Nat.zero_add, List.nil_append] at hown1; have O5 := hid hown1; have B5 := hid hb1; have HA5 := hid (HA2.out.below hb1); have OX5 := hid (own_below OX2.out hb1); have hz5 := hb1.size; clear hown1 hb1 hz1)
    obtain ⟨g5, c5, rfl, hg5, _⟩ := own_form O5.out (by omega)
    have k0 := OX5.out.cellAt 0 (by omega)
    have k1 := OX5.out.cellAt 1 (by omega)
    have k2 := OX5.out.cellAt 2 (by omega)
    have k3 := OX5.out.cellAt 3 (by omega)
    simp only [List.getElem?_cons_zero, List.getElem?_cons_succ] at k0 k1 k2 k3
    have hyv : w5.cell? ⟨g0, k * 4 + 1, none⟩ = some (.int .i64 yc) := by
      obtain ⟨b, o, hb, _, hc⟩ := HA5.out (by intro e; rw [List.map_eq_nil_iff] at e; rw [e] at hkl; exact absurd hkl (by simp))
      injection hb with hb
      injection hb with hb ho
      subst hb ho
      have := hc k xs[k].cells (by rw [List.getElem?_map, List.getElem?_eq_getElem hkl]; rfl) 1 _ rfl
      rw [HYC.out, ← this, Nat.zero_add]
    have fr1 := OX5.out.frozenAt 1
    have n1 : ¬ (w.heap.size = g5) := by omega
    have n2 : ¬ (g5 = w.heap.size) := by omega
    have OX6 := hid (show ((w5.setCell ⟨w.heap.size, 1, none⟩ (.int .i64 (x.fCount + yc))).drew).ownsRow w.heap.size 86 4 (.slice (some ⟨w.heap.size, 0, none⟩) 1 1) 1 (addG x yc).cells from own_below (own_setCells [.int .i64 (x.fCount + yc)] (p := 1) OX5.out) (Below.refl _ _).drew)
    have O6 := hid (show ((w5.setCell ⟨w.heap.size, 1, none⟩ (.int .i64 (x.fCount + yc))).drew).ownsRow w2.heap.size 86 4 (.slice (some ⟨g5, 0, none⟩) xs.length c5) xs.length (xs.map DGood.cells).flatten from own_below (ownsRow_setCell_below O5.out (a := ⟨w.heap.size, 1, none⟩) (show w.heap.size < w2.heap.size by omega) _) (Below.refl _ _).drew)
    have B6 := hid (show Below w.heap.size w ((w5.setCell ⟨w.heap.size, 1, none⟩ (.int .i64 (x.fCount + yc))).drew) from ((B2.out.trans (B5.out.mono hz2)).setCell (p := ⟨w.heap.size, 1, none⟩) (Nat.le_refl _) _).drew)
    have z0 := OX6.out.cellAt 0 (by omega)
    have z1 := OX6.out.cellAt 1 (by omega)
    have z2 := OX6.out.cellAt 2 (by omega)
    have z3 := OX6.out.cellAt 3 (by omega)
    rw [show (addG x yc).cells = [.string x.fId, .int .i64 (x.fCount + yc), .int .i64 x.fLeast, .int .i64 x.fPrice] from rfl] at z0 z1 z2 z3
    simp only [List.getElem?_cons_zero, List.getElem?_cons_succ] at z0 z1 z2 z3
    by_cases h100 : x.fCount + yc ≤ 100000
    · have hgd : goodD (addG x yc) = true := by have := hok1.out; rw [← HYC.out] at this; rw [this]; exact decide_eq_true h100
      have HF := hid (show fPutGood xs x = (xs.set k (addG x yc), 0) by
        unfold fPutGood
        rw [if_neg HE.out, HFD.out]
        show (if x.fCount + xs[k].fCount ≤ 100000 then _ else _) = _
        rw [← HYC.out, if_pos h100, HUP.out])
      have V6 := hid (goodW_gen (addG x yc) w.heap.size 0 _ hx.out z0 z1 z2 z3 true hgd)
      clear hgd z0 z1 z2 z3
      go_wp2_with fail
      go_region
      go_wp2_with (go_at_call 116; refine V6.out.mono ?_; rintro e w8 ⟨rfl, hb⟩; have O8 := hid (own_below O6.out hb); have OX8 := hid (own_below OX6.out hb); have B8 := hid (below_trans B6.out hb); clear hb k0 k1 k2 k3 fr1 hyv; have k0 := OX8.out.cellAt 0 (by omega); have k1 := OX8.out.cellAt 1 (by omega); have k2 := OX8.out.cellAt 2 (by omega); have k3 := OX8.out.cellAt 3 (by omega); rw [show (addG x yc).cells = [.string x.fId, .int .i64 (x.fCount + yc), .int .i64 x.fLeast, .int .i64 x.fPrice] from rfl] at k0 k1 k2 k3; simp only [List.getElem?_cons_zero, List.getElem?_cons_succ] at k0 k1 k2 k3; obtain ⟨u0, hold0⟩ := own_cell O8.out (q := k * 4) (by omega); have hfr0 := O8.out.frozenAt (k * 4); obtain ⟨u1, hold1⟩ := own_cell O8.out (q := k * 4 + 1) (by omega); have hfr1 := O8.out.frozenAt (k * 4 + 1); obtain ⟨u2, hold2⟩ := own_cell O8.out (q := k * 4 + 2) (by omega); have hfr2 := O8.out.frozenAt (k * 4 + 2); obtain ⟨u3, hold3⟩ := own_cell O8.out (q := k * 4 + 3) (by omega); have hfr3 := O8.out.frozenAt (k * 4 + 3))
      go_ret2
      refine RetGoodC.own (l := xs.set k (addG x yc)) HF.out (by rw [List.length_set]; first | done | omega) ?_ (below_setCells (by omega) (addG x yc).cells B8.out)
      have h1 := own_setCells (addG x yc).cells (p := k * 4) O8.out
      rw [setSeg_flatten (cellsGood_len xs) (by rw [List.length_map]; exact hkl) rfl, ← List.map_set] at h1
      exact own_mono h1 hz2
    · have hgd : goodD (addG x yc) = false := by have := hok1.out; rw [← HYC.out] at this; rw [this]; exact decide_eq_false h100
      have HF := hid (show fPutGood xs x = ([], 5) by
        unfold fPutGood
        rw [if_neg HE.out, HFD.out]
        show (if x.fCount + xs[k].fCount ≤ 100000 then _ else _) = _
        rw [← HYC.out, if_neg h100])
      have V6 := hid (goodW_gen (addG x yc) w.heap.size 0 _ hx.out z0 z1 z2 z3 false hgd)
      clear hgd z0 z1 z2 z3
      go_wp2_with fail
      go_region
      go_wp2_with (go_at_call 116; refine V6.out.mono ?_; rintro e w8 ⟨rfl, hb⟩; have B8 := hid (below_trans B6.out hb); clear hb)
      go_ret2
      exact RetGoodC.nil HF.out B8.out

end Go.Proofs.Ytjeklbhdngkngaa
