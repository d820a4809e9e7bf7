/- PutGood: the walk of the program. -/
import Derived.Test.YtjeklbhdngkngaaGoodOf
import Derived.Test.YtjeklbhdngkngaaMGood
import Derived.Test.YtjeklbhdngkngaaHGood
namespace Go.Proofs.Ytjeklbhdngkngaa
open Go.RowKit
set_option linter.unusedVariables false
/-- a list in new memory and a code -/
def RetGoodC (w : World) (r : List DGood × Int) (e : Ending) (w' : World) : Prop :=
  ∃ A c, e = .returned (.tuple #[.slice A r.1.length c, .int .i64 r.2]) ∧ w'.ownsRow w.heap.size 86 4 (.slice A r.1.length c) r.1.length (r.1.map DGood.cells).flatten ∧ (A = none → c = 0) ∧ Below w.heap.size w w'
theorem RetGoodC.nil {w w' : World} {r : List DGood × Int} {c : Int} (h : r = ([], c)) (hb : Below w.heap.size w w') : RetGoodC w r (.returned (.tuple #[.slice none 0 0, .int .i64 c])) w' := by
  subst h
  exact ⟨none, 0, rfl, World.ownsRow_nil _ _ _ _, fun _ => rfl, hb⟩
theorem RetGoodC.own {w w' : World} {r : List DGood × Int} {c : Int} {v : Value} {l : List DGood} {n : Nat} (h : r = (l, c)) (hn : n = l.length) (ho : w'.ownsRow w.heap.size 86 4 v n (l.map DGood.cells).flatten) (hb : Below w.heap.size w w') : RetGoodC w r (.returned (.tuple #[v, .int .i64 c])) w' := by
  subst h hn
  obtain ⟨h1, h2⟩ := ho
  rcases h2 with ⟨rfl, h0⟩ | ⟨g, cap, cur, rfl, r⟩
  · have : l = [] := by simpa using h0
    subst this
    exact ⟨none, 0, rfl, World.ownsRow_nil _ _ _ _, fun _ => rfl, hb⟩
  · exact ⟨_, _, rfl, ⟨h1, .inr ⟨g, cap, cur, rfl, r⟩⟩, fun h => (by cases h), hb⟩

theorem ValidGoods_gen (A : Option Addr) (c : Nat) (xs : List DGood) (w : World) (hA : RowsAt w 4 A (xs.map DGood.cells)) (hok : ∀ x ∈ xs, x.ok) (hn : xs.length ≤ 1048576) (n : Nat) (hl : n = xs.length) (v : Bool) (hv : goodsB xs = v) :
    Calls Try.prog 118 #[.slice A n c] w fun e w' => e = .returned (.bool v) ∧ Below w.heap.size w w' := by
  subst hl hv
  exact ValidGoods_ok A c xs w hA hok hn

set_option maxHeartbeats 3200000 in
set_option maxRecDepth 100000 in
theorem implPutGood_ok (g0 : Nat) (xs : List DGood) (x : DGood) (w : World) (hA : RowsAt w 4 (some ⟨g0, 0, none⟩) (xs.map DGood.cells)) (hok : ∀ x ∈ xs, x.ok) (hn : xs.length ≤ 1048576) (hxo : x.ok) :
    Calls Try.prog 57 #[.slice (some ⟨g0, 0, none⟩) xs.length xs.length, .agg #[.string x.fId, .int .i64 x.fCount, .int .i64 x.fLeast, .int .i64 x.fPrice]] w (RetGoodC w (fPutGood xs x)) := by
  have OX0 := hid (World.ownsRow_lit (e := 86) (size := 4) w #[.string x.fId, .int .i64 x.fCount, .int .i64 x.fLeast, .int .i64 x.fPrice] 1 (Nat.le_refl _) (by unfold maxLen; omega) rfl)
  have BX0 := hid (below_alloc w (.cells #[.string x.fId, .int .i64 x.fCount, .int .i64 x.fLeast, .int .i64 x.fPrice] 86))
  have HA := hid (hA.below (below_alloc w (.cells #[.string x.fId, .int .i64 x.fCount, .int .i64 x.fLeast, .int .i64 x.fPrice] 86)))
  have HK := hid hok
  have hx := hid hxo
  clear hA hok hxo
  cases c1 : goodsB xs
  · have HF := hid (show fPutGood xs x = ([], 1) by unfold fPutGood; rw [if_pos (by rw [c1]; rfl)])
    go_enter Try.func57, Try.ntmps57
    go_wp2_with (go_at_call 118; refine (ValidGoods_ok _ _ xs _ HA.out HK.out hn).mono ?_; rintro e w1 ⟨rfl, hb⟩; have BB1 := hid hb; have hz1 : w.heap.size + 1 ≤ w1.heap.size := (by have := hb.size; simpa using this); have B1 := hid (below_chain hb (Below.refl _ _)); have OX1 := hid (own_below OX0.out hb); have HA1 := hid (HA.out.below hb); clear hb; have k0 := OX1.out.cellAt 0 (by omega); have k1 := OX1.out.cellAt 1 (by omega); have k2 := OX1.out.cellAt 2 (by omega); have k3 := OX1.out.cellAt 3 (by omega); simp only [List.getElem?_cons_zero, List.getElem?_cons_succ] at k0 k1 k2 k3)
    go_ret2
    exact RetGoodC.nil HF.out B1.out
  cases c2 : goodD x
  · have HF := hid (show fPutGood xs x = ([], 1) by unfold fPutGood; rw [if_pos (by rw [c1, c2]; rfl)])
    go_enter Try.func57, Try.ntmps57
    go_wp2_with (first | (go_at_call 119; refine (goodV_ok x _ hx.out).mono ?_; rintro e w2 ⟨rfl, hb⟩; have hz12 := hb.size; have B2 := hid (below_trans B1.out hb); have OX2 := hid (own_below OX1.out hb); have HA2 := hid (HA1.out.below hb); clear hb k0 k1 k2 k3) | (go_at_call 118; refine (ValidGoods_ok _ _ xs _ HA.out HK.out hn).mono ?_; rintro e w1 ⟨rfl, hb⟩; have BB1 := hid hb; have hz1 : w.heap.size + 1 ≤ w1.heap.size := (by have := hb.size; simpa using this); have B1 := hid (below_chain hb (Below.refl _ _)); have OX1 := hid (own_below OX0.out hb); have HA1 := hid (HA.out.below hb); clear hb; have k0 := OX1.out.cellAt 0 (by omega); have k1 := OX1.out.cellAt 1 (by omega); have k2 := OX1.out.cellAt 2 (by omega); have k3 := OX1.out.cellAt 3 (by omega); simp only [List.getElem?_cons_zero, List.getElem?_cons_succ] at k0 k1 k2 k3))
    go_ret2
    exact RetGoodC.nil HF.out B2.out
  have HE := hid (show ¬ ((goodsB xs && goodD x) = false) by rw [c1, c2]; simp)
  have h16 := (goodsB_iff.1 c1).2
  have HT := hid (goodsB_iff.1 c1).1
  have HC1 := hid c1
  have HC2 := hid c2
  go_enter Try.func57, Try.ntmps57
  go_wp2_with (first | (go_at_call 119; refine (goodV_ok x _ hx.out).mono ?_; rintro e w2 ⟨rfl, hb⟩; have hz12 := hb.size; have B2 := hid (below_trans B1.out hb); have OX2 := hid (own_below OX1.out hb); have HA2 := hid (HA1.out.below hb); clear hb k0 k1 k2 k3) | (go_at_call 118; refine (ValidGoods_ok _ _ xs _ HA.out HK.out hn).mono ?_; rintro e w1 ⟨rfl, hb⟩; have BB1 := hid hb; have hz1 : w.heap.size + 1 ≤ w1.heap.size := (by have := hb.size; simpa using this); have B1 := hid (below_chain hb (Below.refl _ _)); have OX1 := hid (own_below OX0.out hb); have HA1 := hid (HA.out.below hb); clear hb; have k0 := OX1.out.cellAt 0 (by omega); have k1 := OX1.out.cellAt 1 (by omega); have k2 := OX1.out.cellAt 2 (by omega); have k3 := OX1.out.cellAt 3 (by omega); simp only [List.getElem?_cons_zero, List.getElem?_cons_succ] at k0 k1 k2 k3))
  refine (cloneGood_ok _ _ xs _ HA2.out hn (fun h => by cases h)).mono ?_
  rintro e w5 ⟨g5, rfl, ho5, hb⟩
  have O5 := hid ho5
  have B5 := hid (below_trans B2.out hb)
  have OX5 := hid (own_below OX2.out hb)
  have HA5 := hid (HA2.out.below hb)
  have hz5 := hb.size
  have hz2 := B2.out.size
  have hg5 := (own_cap ho5).2.2
  clear ho5 hb
  have k0 := OX5.out.cellAt 0 (by omega)
  have k1 := OX5.out.cellAt 1 (by omega)
  have k2 := OX5.out.cellAt 2 (by omega)
  have k3 := OX5.out.cellAt 3 (by omega)
  simp only [List.getElem?_cons_zero, List.getElem?_cons_succ] at k0 k1 k2 k3
  go_wp2_with fail
  refine (goodOf_ok _ _ xs x.fId _ HA5.out HT.out h16).mono ?_
  rintro e w7 ⟨⟨k, f, rfl, hk, hl, hor⟩, hb⟩
  have O7 := hid (own_below O5.out hb)
  have B7 := hid (below_trans B5.out hb)
  have OX7 := hid (own_below OX5.out hb)
  have HA7 := hid (HA5.out.below hb)
  have hz7 := hb.size
  have HL := hid hl
  clear hl hb k0 k1 k2 k3
  have k0 := OX7.out.cellAt 0 (by omega)
  have k1 := OX7.out.cellAt 1 (by omega)
  have k2 := OX7.out.cellAt 2 (by omega)
  have k3 := OX7.out.cellAt 3 (by omega)
  simp only [List.getElem?_cons_zero, List.getElem?_cons_succ] at k0 k1 k2 k3
  rcases hor with ⟨rfl, hkl, he⟩ | ⟨rfl, hup⟩
  · obtain ⟨hup, hfd⟩ := findG_yes hkl HL.out he
    have HG := hid he
    obtain ⟨yc, hyc⟩ : ∃ yc, yc = xs[k].fCount := ⟨_, rfl⟩
    have hg1 := good_in c2
    have hg2 := good_in (HT.out k hkl hkl).1
    have hg1' := hg1.2.1
    have hg2' := hg2.2.1
    rw [← hyc] at hg2'
    have hok1 := hid (good_add c2 (HT.out k hkl hkl).1)
    clear hg1 hg2
    have w1 : IntKind.i64.wrap (x.fCount + yc) = x.fCount + yc := IntWalk.i64_in _ (by omega)
    have hyv : w7.cell? ⟨g0, k * 4 + 1, none⟩ = some (.int .i64 yc) := by
      obtain ⟨b, o, hb, _, hc⟩ := HA7.out (by intro e; rw [List.map_eq_nil_iff] at e; rw [e] at hkl; exact absurd hkl (by simp))
      injection hb with hb
      injection hb with hb ho
      subst hb ho
      have := hc k xs[k].cells (by rw [List.getElem?_map, List.getElem?_eq_getElem hkl]; rfl) 1 _ rfl
      rw [hyc, ← this, Nat.zero_add]
    have q0 : (0 : Int) ≤ (k : Int) := by omega
    have q1 : (k : Int) < xs.length := by omega
    have fr1 := OX7.out.frozenAt 1
    have HYC := hid hyc
    have HUP := hid (show upG xs (gn x) = k from hup)
    have HFD := hid (show findG xs (gn x) = some xs[k] from hfd)
    clear hyc he hup hfd
    obtain ⟨u0, hold0⟩ := own_cell O7.out (q := k * 4) (by omega)
    have hfr0 := O7.out.frozenAt (k * 4)
    obtain ⟨u1, hold1⟩ := own_cell O7.out (q := k * 4 + 1) (by omega)
    have hfr1 := O7.out.frozenAt (k * 4 + 1)
    obtain ⟨u2, hold2⟩ := own_cell O7.out (q := k * 4 + 2) (by omega)
    have hfr2 := O7.out.frozenAt (k * 4 + 2)
    obtain ⟨u3, hold3⟩ := own_cell O7.out (q := k * 4 + 3) (by omega)
    have hfr3 := O7.out.frozenAt (k * 4 + 3)
    have n1 : ¬ (w.heap.size = g5) := by omega
    have n2 : ¬ (g5 = w.heap.size) := by omega
    have O8 := hid (show ((setCells (w7.setCell ⟨w.heap.size, 1, none⟩ (.int .i64 (x.fCount + yc))) g5 (k * 4) (addG x yc).cells).drew).ownsRow w2.heap.size 86 4 (.slice (some ⟨g5, 0, none⟩) xs.length xs.length) xs.length ((xs.set k (addG x yc)).map DGood.cells).flatten from by
      have h1 := own_setCells (addG x yc).cells (p := k * 4) (ownsRow_setCell_below O7.out (a := ⟨w.heap.size, 1, none⟩) (show w.heap.size < w2.heap.size by omega) (.int .i64 (x.fCount + yc)))
      rw [setSeg_flatten (cellsGood_len xs) (by rw [List.length_map]; exact hkl) rfl, ← List.map_set] at h1
      exact own_below h1 (Below.refl _ _).drew)
    have B8 := hid (show Below w.heap.size w ((setCells (w7.setCell ⟨w.heap.size, 1, none⟩ (.int .i64 (x.fCount + yc))) g5 (k * 4) (addG x yc).cells).drew) from (below_setCells (by omega) _ (B7.out.setCell (p := ⟨w.heap.size, 1, none⟩) (Nat.le_refl _) _)).drew)
    have HK8 := hid (show ∀ z ∈ xs.set k (addG x yc), z.ok from fun z hz => by
      rcases List.mem_or_eq_of_mem_set hz with h5 | h5
      · exact HK.out z h5
      · rw [h5]; exact hx.out)
    have HR8 := hid (rows_own O8.out (by rw [List.length_map, List.length_set]) (cellsGood_len _))
    have HGE := hid (show gn xs[k] = gn (addG x yc) from HG.out)
    obtain ⟨zs, hzs⟩ : ∃ zs, zs = xs.set k (addG x yc) := ⟨_, rfl⟩
    have hzl : zs.length = xs.length := by rw [hzs, List.length_set]
    have HZ := hid hzs
    have HZL := hid hzl
    rw [← hzs] at O8 HK8 HR8
    clear hzs hzl
    by_cases h100 : x.fCount + yc ≤ 100000
    · have hgd : goodsB zs = true := by rw [HZ.out]; exact goods_set HC1.out hkl HGE.out (by have := hok1.out; rw [← HYC.out] at this; rw [this]; exact decide_eq_true h100)
      have HF := hid (show fPutGood xs x = (zs, 0) by
        unfold fPutGood
        rw [if_neg HE.out, HFD.out]
        show (if x.fCount + xs[k].fCount ≤ 100000 then _ else _) = _
        rw [← HYC.out, if_pos h100, HZ.out, HUP.out])
      have V8 := hid (fun w8 hw => ValidGoods_gen (some ⟨g5, 0, none⟩) xs.length zs w8 hw HK8.out (by rw [HZL.out]; exact hn) xs.length HZL.out.symm true hgd)
      clear hgd
      go_wp2_with fail
      go_region
      go_wp2_with (go_at_call 118; refine (V8.out _ HR8.out).mono ?_; rintro e w9 ⟨rfl, hb⟩; have O9 := hid (own_below O8.out hb); have B9 := hid (below_trans B8.out hb); clear hb)
      go_ret2
      exact RetGoodC.own HF.out HZL.out.symm (own_mono O9.out hz2) B9.out
    · have hgd : goodsB zs = false := by rw [HZ.out]; exact goods_over hkl (by have := hok1.out; rw [← HYC.out] at this; rw [this]; exact decide_eq_false h100)
      have HF := hid (show fPutGood xs x = ([], 5) by
        unfold fPutGood
        rw [if_neg HE.out, HFD.out]
        show (if x.fCount + xs[k].fCount ≤ 100000 then _ else _) = _
        rw [← HYC.out, if_neg h100])
      have V8 := hid (fun w8 hw => ValidGoods_gen (some ⟨g5, 0, none⟩) xs.length zs w8 hw HK8.out (by rw [HZL.out]; exact hn) xs.length HZL.out.symm false hgd)
      clear hgd
      go_wp2_with fail
      go_region
      go_wp2_with (go_at_call 118; refine (V8.out _ HR8.out).mono ?_; rintro e w9 ⟨rfl, hb⟩; have B9 := hid (below_trans B8.out hb); clear hb)
      go_ret2
      exact RetGoodC.nil HF.out B9.out
  · obtain ⟨hup2, hfd⟩ := findG_no hk HL.out hup
    have HUP := hid (show upG xs (gn x) = k from hup2)
    have HFD := hid (show findG xs (gn x) = none from hfd)
    have q0 : (0 : Int) ≤ (k : Int) := by omega
    have hgd := goods_ins HC1.out c2 hk HL.out hup
    clear hup hup2 hfd
    obtain ⟨zs, hzs⟩ : ∃ zs, zs = insGood xs k x := ⟨_, rfl⟩
    have hzl : zs.length = xs.length + 1 := by rw [hzs]; exact insGood_length hk
    have HK8 := hid (show ∀ z ∈ zs, z.ok from fun z hz => by
      rw [hzs] at hz
      unfold insGood at hz
      simp only [List.mem_append, List.mem_cons, List.not_mem_nil, or_false] at hz
      rcases hz with (h5 | h5) | h5
      · exact HK.out z (List.mem_of_mem_take h5)
      · rw [h5]; exact hx.out
      · exact HK.out z (List.mem_of_mem_drop h5))
    rw [← hzs] at hgd
    have HZ := hid hzs
    have HZL := hid hzl
    clear hzs hzl
    have NX := hid (HasC.new w7 [.string x.fId, .int .i64 x.fCount, .int .i64 x.fLeast, .int .i64 x.fPrice] 86)
    by_cases h15 : xs.length < 16
    · have hgd2 : goodsB zs = true := by rw [hgd]; exact decide_eq_true h15
      have HF := hid (show fPutGood xs x = (zs, 0) by
        unfold fPutGood
        rw [if_neg HE.out, HFD.out]
        show (if xs.length = 16 then _ else _) = _
        rw [if_neg (by omega), HZ.out, HUP.out])
      have V8 := hid (fun A c w8 hw => ValidGoods_gen A c zs w8 hw HK8.out (by rw [HZL.out]; omega) (xs.length + 1) HZL.out.symm true hgd2)
      clear hgd hgd2
      go_wp2_with (first | (go_at_call 118; refine (V8.out _ _ _ HR8.out).mono ?_; rintro e w9 ⟨rfl, hb⟩; have O9 := hid (own_below O8.out hb); have B9 := hid (below_trans B8.out hb); clear hb) | (go_at_call 122; refine (insertGood_ok g5 k w7.heap.size _ w2.heap.size xs x _ (O7.out.alloc _) hk NX.out.2 NX.out.1 hn (by simp; omega)).mono ?_; rintro e w8 ⟨A8, c8, rfl, ho8, hb8⟩; have O8 := hid (show w8.ownsRow w2.heap.size 86 4 (.slice A8 (xs.length + 1) c8) (xs.length + 1) (zs.map DGood.cells).flatten by rw [HZ.out]; exact ho8); have HR8 := hid (rows_own O8.out (by rw [List.length_map]; exact HZL.out) (cellsGood_len _)); have B8 := hid (show Below w.heap.size w w8 from (B7.out.alloc B7.out.size _).trans (hb8.mono (by omega))); clear ho8 hb8))
      go_ret2
      exact RetGoodC.own HF.out HZL.out.symm (own_mono O9.out (by omega)) B9.out
    · have hgd2 : goodsB zs = false := by rw [hgd]; exact decide_eq_false h15
      have HF := hid (show fPutGood xs x = ([], 5) by
        unfold fPutGood
        rw [if_neg HE.out, HFD.out]
        show (if xs.length = 16 then _ else _) = _
        rw [if_pos (by omega)])
      have V8 := hid (fun A c w8 hw => ValidGoods_gen A c zs w8 hw HK8.out (by rw [HZL.out]; omega) (xs.length + 1) HZL.out.symm false hgd2)
      clear hgd hgd2
      go_wp2_with (first | (go_at_call 118; refine (V8.out _ _ _ HR8.out).mono ?_; rintro e w9 ⟨rfl, hb⟩; have O9 := hid (own_below O8.out hb); have B9 := hid (below_trans B8.out hb); clear hb) | (go_at_call 122; refine (insertGood_ok g5 k w7.heap.size _ w2.heap.size xs x _ (O7.out.alloc _) hk NX.out.2 NX.out.1 hn (by simp; omega)).mono ?_; rintro e w8 ⟨A8, c8, rfl, ho8, hb8⟩; have O8 := hid (show w8.ownsRow w2.heap.size 86 4 (.slice A8 (xs.length + 1) c8) (xs.length + 1) (zs.map DGood.cells).flatten by rw [HZ.out]; exact ho8); have HR8 := hid (rows_own O8.out (by rw [List.length_map]; exact HZL.out) (cellsGood_len _)); have B8 := hid (show Below w.heap.size w w8 from (B7.out.alloc B7.out.size _).trans (hb8.mono (by omega))); clear ho8 hb8))
      go_ret2
      exact RetGoodC.nil HF.out B9.out

end Go.Proofs.Ytjeklbhdngkngaa
