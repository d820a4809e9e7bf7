/- The law FnBows. -/
import Derived.Test.YtmfadjdpbobfhaaDoorBowK
import Derived.Deep.QuietTactic
import Derived.Deep.DeepCutAuto
namespace Go.Proofs.YtmfadjdpbobfhaaDoor
open Go.RowKit
set_option linter.unusedVariables false

set_option maxHeartbeats 6400000 in
set_option maxRecDepth 100000 in
theorem lawFnBows_ok (A : Option Addr) (c : Nat) (ns : List Int) (B : Option Addr) (d : Nat) (ms : List Int) (w : World) (hA : BytesAt w A ns) (hBa : ByteIn ns) (hl : ns.length ≤ maxLen) (hB : BytesAt w B ms) (hBb : ByteIn ms) (hm : ms.length ≤ maxLen) (hR : RdW w) :
    Calls Tryd.prog 9 #[.slice A ns.length c, .slice B ms.length d] w fun e w' => e = .returned (.bool true) ∧ Below w.heap.size w w' := by
  have HA := hid hA
  have HB := hid hB
  have HBa := hid hBa
  have HBb := hid hBb
  have RD := hid hR
  clear hA hB hBa hBb hR
  go_enter Tryd.func9, Tryd.ntmps9
  go_wp2_with fail
  refine (r8Long_ok A c ns.length B d ms.length _ hl hm).mono ?_
  rintro e w1 ⟨rfl, rfl⟩
  cases hlong : (decide (1048576 < ns.length) || decide (1048576 < ms.length))
  case true =>
    go_wp2_with fail
    go_ret
    exact ⟨rfl, Below.refl _ _⟩
  have hl2 : ns.length ≤ 1048576 := by simp at hlong; omega
  have hm2 : ms.length ≤ 1048576 := by simp at hlong; omega
  clear hlong
  go_wp2_with fail
  refine (r8Bow_ok A c ns _ HA.out HBa.out hl2).mono ?_
  rintro e w9 ⟨xs, n, g, cc, hn, rfl, hd, hR, hcap, hb⟩
  obtain ⟨n1, n6⟩ := drwB_n hd hn
  have DX := hid hd
  have HN := hid hn
  have R := hid hR
  have HCAP := hid hcap
  have BL := hid hb
  replace HB := hid (HB.out.below hb)
  replace RD := hid (RD.out.below hb)
  obtain ⟨M, hM⟩ : ∃ M, massL xs = M := ⟨_, rfl⟩
  obtain ⟨P, hP⟩ : ∃ P, momL xs = P := ⟨_, rfl⟩
  obtain ⟨bal, hbal⟩ : ∃ b, divR P M = b := ⟨_, rfl⟩
  have bM := mass_bd hd n (by omega)
  have bP := mom_bd hd n (by omega)
  have bM1 := massL_pos hd
  rw [← massL_n hn, hM] at bM
  rw [← momL_n hn, hP] at bP
  rw [hM] at bM1
  have hnear := divR_near (a := P) (b := M) bP.1 (by omega)
  rw [hbal] at hnear
  have HM := hid hM
  have HP := hid hP
  have HBAL := hid hbal
  have HNEAR := hid hnear
  clear hb hd hn hR hcap HA HBa hM hP hbal hnear
  go_wp2_with fail
  refine (BowMass_ok _ cc n xs _ R.out DX.out HN.out M HM.out).mono ?_
  rintro e w9 ⟨rfl, hb⟩
  replace R := hid (R.out.below hb)
  replace HB := hid (HB.out.below hb)
  replace RD := hid (RD.out.below hb)
  replace BL := hid (below_trans BL.out hb)
  clear hb
  go_wp2_with fail
  refine (Balance_n _ cc n xs _ R.out DX.out HN.out M P bal HM.out HP.out HBAL.out).mono ?_
  rintro e w9 ⟨rfl, hb⟩
  replace R := hid (R.out.below hb)
  replace HB := hid (HB.out.below hb)
  replace RD := hid (RD.out.below hb)
  replace BL := hid (below_trans BL.out hb)
  clear hb
  go_wp2_with fail
  refine (HeaviestPart_ok _ cc n xs _ R.out DX.out HN.out).mono ?_
  rintro e w9 ⟨⟨bt, rfl, y, hy, hmax⟩, hb⟩
  replace R := hid (R.out.below hb)
  replace HB := hid (HB.out.below hb)
  replace RD := hid (RD.out.below hb)
  replace BL := hid (below_trans BL.out hb)
  have HY := hid hy
  have HMX := hid hmax
  have hbn : bt < n := by rw [← HN.out]; exact (List.getElem?_eq_some_iff.1 hy).1
  have t0 : (0 : Int) ≤ (bt : Int) := by omega
  have t1 : (bt : Int) < n := by omega
  have t2 : ¬ (bt : Int) < 0 := by omega
  have t3 : ¬ (n : Int) ≤ (bt : Int) := by omega
  have t4 : decide ((bt : Int) < 0) = false := decide_eq_false t2
  have t5 : decide (n ≤ bt) = false := decide_eq_false (by omega)
  clear hy hmax
  clear hb
  go_wp2_with fail
  refine (ValidBow_ok _ cc n xs _ R.out DX.out HN.out).mono ?_
  rintro e w9 ⟨rfl, hb⟩
  replace R := hid (R.out.below hb)
  replace HB := hid (HB.out.below hb)
  replace RD := hid (RD.out.below hb)
  replace BL := hid (below_trans BL.out hb)
  skip
  clear hb
  go_wp2_with fail
  clear t2 t3 t4 t5
  rename World => w1
  go_loopw [12, 13, 14] (fun s p i wr => ∃ k : Nat, k ≤ n ∧ i = .int .i64 (k : Int) ∧ s = .int .i64 (sumB massP xs k) ∧ p = .int .i64 (sumB momP xs k) ∧ Below w1.heap.size w1 wr) (fun _ _ i _ => n - (intOf i).toNat)
  case atStart => exact ⟨0, Nat.zero_le _, rfl, rfl, rfl, Below.refl _ _⟩
  case round =>
    obtain ⟨k, hk, rfl, rfl, rfl, hbel⟩ := hrel
    by_cases hkl : k < n
    · as_aux_lemma =>
        obtain ⟨x, hx⟩ : ∃ x, xs[k]? = some x := ⟨_, List.getElem?_eq_getElem (by rw [HN.out]; exact hkl)⟩
        have HXK := hid hx
        have HXS := hid (DX.out.one x (List.mem_of_getElem? hx))
        have hmx := HMX.out k x hx
        have nmx : ¬ y.fMass < x.fMass := by omega
        have HE3 := hid (show sumB massP xs (k + 1) = sumB massP xs k + x.fMass from sumB_next (f := massP) hx)
        have HE4 := hid (show sumB momP xs (k + 1) = sumB momP xs k + x.fMass * x.fAt from sumB_next (f := momP) hx)
        have b1 := mass_bd DX.out k (by rw [HN.out]; exact hk)
        have b2 := mom_bd DX.out k (by rw [HN.out]; exact hk)
        have b3 := mom_one HXS.out
        have b4 := mass_one HXS.out
        unfold momP at b3
        unfold massP at b4
        obtain ⟨s1, hs1⟩ : ∃ s, sumB massP xs k = s := ⟨_, rfl⟩
        obtain ⟨s2, hs2⟩ : ∃ s, sumB momP xs k = s := ⟨_, rfl⟩
        rw [hs1] at b1 HE3
        rw [hs2] at b2 HE4
        rw [hs1, hs2]
        have v1 : IntKind.i64.wrap (s1 + x.fMass) = s1 + x.fMass := IntWalk.i64_in _ (by omega)
        have v2 : IntKind.i64.wrap (x.fMass * x.fAt) = x.fMass * x.fAt := IntWalk.i64_in _ (by omega)
        have v3 : IntKind.i64.wrap (s2 + x.fMass * x.fAt) = s2 + x.fMass * x.fAt := IntWalk.i64_in _ (by omega)
        have RR := hid (R.out.below hbel)
        have DD := hid (RD.out.below hbel)
        have BB := hid hbel
        obtain ⟨ps, hps⟩ : ∃ s, partT x.fId x.fAt x.fMass = s := ⟨_, rfl⟩
        have HPS := hid hps
        obtain ⟨ab, ao, hae, hAt⟩ := PartAt.of_rows RR.out hx
        injection hae with hae
        injection hae with ha1 ha2
        subst ha1 ha2
        rw [Nat.zero_add] at hAt
        obtain ⟨hl0, x0, x1, x2⟩ := hAt
        have q0 : (0 : Int) ≤ (k : Int) := by omega
        have q1 : (k : Int) < n := by omega
        clear hx hmx hs1 hs2 b1 b2 b3 b4 hbel hps
        go_wp2_with fail
        go_quiet (fail)
        rename Nat => nq
        clear x0 x1 x2 v1 v2 v3
        replace RR := hid (RR.out.below (below_drewN wr nq))
        replace DD := hid (DD.out.below (below_drewN wr nq))
        replace BB := hid (below_trans BB.out (below_drewN wr nq))
        have HAT := hid (show ∀ wb, RowsAt wb 3 (some ⟨g, 0, none⟩) (xs.map DPart.cells) → ∀ (j : Nat) (z : DPart), xs[j]? = some z → PartAt wb g (j * 3) z from fun wb h j z hz => by
          obtain ⟨ab, ao, hae, hAt⟩ := PartAt.of_rows h hz
          injection hae with hae
          injection hae with ha1 ha2
          subst ha1 ha2
          rw [Nat.zero_add] at hAt
          exact hAt)
        obtain ⟨-, x0, x1, x2⟩ := HAT.out _ RR.out k x HXK.out
        go_wp2_with fail
        refine (text_n x ps _ HXS.out DD.out HPS.out).mono ?_
        rintro e w9 ⟨rfl, hb⟩
        replace RR := hid (RR.out.below hb)
        replace DD := hid (DD.out.below hb)
        replace BB := hid (below_trans BB.out hb)
        clear x0 x1 x2
        clear hb
        go_wp2_with fail
        refine (read_n x ps _ HXS.out DD.out HPS.out).mono ?_
        rintro e w9 ⟨rfl, hb⟩
        replace RR := hid (RR.out.below hb)
        replace DD := hid (DD.out.below hb)
        replace BB := hid (below_trans BB.out hb)
        clear hb
        go_upto_region 17 with fail
        have hyn := PartAt.new w9 x 39
        have hbn2 := below_alloc w9 (.cells #[.string x.fId, .int .i64 x.fAt, .int .i64 x.fMass] 39)
        replace RR := hid (RR.out.below hbn2)
        replace BB := hid (below_trans BB.out hbn2)
        obtain ⟨W, hW⟩ : ∃ W, W = w9.alloc (.cells #[.string x.fId, .int .i64 x.fAt, .int .i64 x.fMass] 39) := ⟨_, rfl⟩
        rw [← hW]
        rw [← hW] at hyn RR BB
        obtain ⟨nb, hnb⟩ : ∃ nb, nb = w9.heap.size := ⟨_, rfl⟩
        rw [← hnb]
        rw [← hnb] at hyn
        clear hbn2 hW hnb DD
        obtain ⟨hly, z0, z1, z2⟩ := hyn
        obtain ⟨hlx, x0, x1, x2⟩ := HAT.out _ RR.out k x HXK.out
        obtain ⟨-, -, -, y2⟩ := HAT.out _ RR.out bt y HY.out
        clear HAT
        go_quiet (fail)
        rename Nat => nq2
        clear x0 x1 x2 y2 z0 z1 z2 hly hlx
        go_wp2_with fail
        go_roundw
        case rel => exact ⟨k + 1, by omega, by go_num, by rw [HE3.out], by rw [HE4.out], below_drewN' BB.out nq2⟩
        case measure => simp [intOf]; omega
    · have hk2 : k = n := by omega
      have q1 : ¬ (k : Int) < n := by omega
      rw [show sumB massP xs k = M by rw [hk2, ← massL_n HN.out]; exact HM.out, show sumB momP xs k = P by rw [hk2, ← momL_n HN.out]; exact HP.out]
      replace R := hid (R.out.below hbel)
      replace HB := hid (HB.out.below hbel)
      replace BL := hid (below_trans BL.out hbel)
      clear hbel RD HY HMX hbn t0 t1 hk2 hkl hk
      obtain ⟨r1, hr1⟩ : ∃ r, max (bal * M - P) (-(bal * M - P)) = r := ⟨_, rfl⟩
      obtain ⟨nr1, nr2⟩ := HNEAR.out
      have hr2 : ¬ M < 2 * r1 := by omega
      have v1 : IntKind.i64.wrap (bal * M) = bal * M := IntWalk.i64_in _ (by omega)
      have v2 : IntKind.i64.wrap (bal * M - P) = bal * M - P := IntWalk.i64_in _ (by omega)
      have v3 : IntKind.i64.wrap (2 * r1) = 2 * r1 := IntWalk.i64_in _ (by omega)
      have HR1 := hid hr1
      clear hr1
      go_wp2_with fail
      refine (abs_n (bal * M - P) r1 _ (by omega) (by omega) HR1.out).mono ?_
      rintro e w9 ⟨rfl, rfl⟩
      clear nr1 nr2
      go_wp2_with fail
      refine (r8Wide_ok B d ms 0 0 740 _ HB.out HBb.out hm2 (by omega) rfl (by omega) (by omega)).mono ?_
      rintro e w8 ⟨⟨a, rfl, a0, a1⟩, rfl⟩
      clear v1 v2 v3 hr2 HR1
      go_wp2_with fail
      refine (r8Wide_ok B d ms 2 2 740 _ HB.out HBb.out hm2 (by omega) rfl (by omega) (by omega)).mono ?_
      rintro e w8 ⟨⟨gl, rfl, g0, g1⟩, rfl⟩
      go_wp2_with fail
      refine (AddedMass_ok _ cc n xs _ R.out DX.out HN.out M P a gl HM.out HP.out ⟨by omega, by omega⟩ ⟨by omega, by omega⟩).mono ?_
      rintro e w9 ⟨⟨r, dd, rfl, hq⟩, hb⟩
      replace R := hid (R.out.below hb)
      replace HB := hid (HB.out.below hb)
      replace BL := hid (below_trans BL.out hb)
      have HQ := hid hq
      clear hq
      clear hb
      go_upto_if 171 with fail
      rename World => w2
      go_cut [] from 171 to 219 (fun wx => wx = w2)
      case first => as_aux_lemma =>
          have bgm := mulP (a := gl) (b := M) (M := 800) (N := 240000) (by omega) (by omega)
          rcases HQ.out with ⟨rfl, ⟨r0, r1'⟩, hge, hlt⟩ | ⟨rfl, hag, hpg⟩ | rfl
          · have b1 := mulP (a := r) (b := a) (M := 100000) (N := 800) (by omega) (by omega)
            have b2 := mulP (a := gl) (b := M + r) (M := 800) (N := 400000) (by omega) (by omega)
            have v1 : IntKind.i64.wrap (r * a) = r * a := IntWalk.i64_in _ (by omega)
            have v2 : IntKind.i64.wrap (P + r * a) = P + r * a := IntWalk.i64_in _ (by omega)
            have v3 : IntKind.i64.wrap (M + r) = M + r := IntWalk.i64_in _ (by omega)
            have v4 : IntKind.i64.wrap (gl * (M + r)) = gl * (M + r) := IntWalk.i64_in _ (by omega)
            have c1 : ¬ r < 0 := by omega
            have c2 : ¬ P + r * a < gl * (M + r) := by omega
            by_cases hr0 : 0 < r
            · as_aux_lemma =>
                have hl9 := hlt hr0
                have b3 := mulP (a := r - 1) (b := a) (M := 100000) (N := 800) (by omega) (by omega)
                have b4 := mulP (a := gl) (b := M + r - 1) (M := 800) (N := 400000) (by omega) (by omega)
                have v5 : IntKind.i64.wrap (r - 1) = r - 1 := IntWalk.i64_in _ (by omega)
                have v6 : IntKind.i64.wrap ((r - 1) * a) = (r - 1) * a := IntWalk.i64_in _ (by omega)
                have v7 : IntKind.i64.wrap (P + (r - 1) * a) = P + (r - 1) * a := IntWalk.i64_in _ (by omega)
                have v8 : IntKind.i64.wrap (M + r - 1) = M + r - 1 := IntWalk.i64_in _ (by omega)
                have v9 : IntKind.i64.wrap (gl * (M + r - 1)) = gl * (M + r - 1) := IntWalk.i64_in _ (by omega)
                have c3 : ¬ gl * (M + r - 1) ≤ P + (r - 1) * a := by omega
                have e0 : decide (0 < r) = true := decide_eq_true hr0
                clear hlt hl9 hge b1 b2 b3 b4 bgm
                go_wp2_with fail
                go_meet
                rfl
            · as_aux_lemma =>
                have e0 : decide (0 < r) = false := decide_eq_false hr0
                clear hlt hge b1 b2 bgm
                go_wp2_with fail
                go_meet
                rfl
          · as_aux_lemma =>
              have v1 : IntKind.i64.wrap (gl * M) = gl * M := IntWalk.i64_in _ (by omega)
              have c1 : ¬ gl < a := by omega
              have c2 : ¬ gl * M ≤ P := by omega
              clear hag hpg bgm
              go_wp2_with fail
              go_meet
              rfl
          · as_aux_lemma =>
              clear bgm
              go_wp2_with fail
              go_meet
              rfl
      case rest =>
        obtain rfl := hcut
        clear HQ
        go_wp2_with fail
        refine (r8At_n B d ms 4 n 4 rfl _ HB.out HBb.out hm2 ⟨n1, by omega⟩).mono ?_
        rintro e w8 ⟨⟨k, rfl, hkn⟩, rfl⟩
        obtain ⟨x, hx⟩ : ∃ x, xs[k]? = some x := ⟨_, List.getElem?_eq_getElem (by rw [HN.out]; exact hkn)⟩
        have HXK := hid hx
        have HXS := hid (DX.out.one x (List.mem_of_getElem? hx))
        have b6 := mom_in DX.out hx
        have b7 := mom_one HXS.out
        rw [HP.out] at b6
        unfold momP at b6 b7
        obtain ⟨-, -, p0, p1, m0, m1⟩ := HXS.out
        have q0 : (0 : Int) ≤ (k : Int) := by omega
        have q1 : (k : Int) < n := by omega
        have v1 : IntKind.i64.wrap (x.fMass * x.fAt) = x.fMass * x.fAt := IntWalk.i64_in _ (by omega)
        have v2 : IntKind.i64.wrap (P - x.fMass * x.fAt) = P - x.fMass * x.fAt := IntWalk.i64_in _ (by omega)
        clear hx
        obtain ⟨hlx, x0, x1, x2⟩ := PartAt.rows R.out HXK.out
        go_wp2_with fail
        refine (MovedPart_ok _ cc n xs _ R.out DX.out HN.out k x HXK.out M P gl HM.out HP.out ⟨by omega, by omega⟩).mono ?_
        rintro e w9 ⟨⟨r, dd, rfl, hq⟩, hb⟩
        replace R := hid (R.out.below hb)
        replace HB := hid (HB.out.below hb)
        replace BL := hid (below_trans BL.out hb)
        have HQ := hid hq
        clear hq x0 x1 x2 hlx
        clear hb
        obtain ⟨hlx, x0, x1, x2⟩ := PartAt.rows R.out HXK.out
        go_upto_region 34 with fail
        go_quiet (fail)
        rename Nat => nq
        clear x0 x1 x2 hlx v1 v2
        obtain ⟨W, hW⟩ : ∃ W, W = w9.drewN nq := ⟨_, rfl⟩
        have hb := below_drewN w9 nq
        rw [← hW]
        rw [← hW] at hb
        replace R := hid (R.out.below hb)
        replace HB := hid (HB.out.below hb)
        replace BL := hid (below_trans BL.out hb)
        clear hb hW
        obtain ⟨rs, hrs⟩ : ∃ q, P - x.fMass * x.fAt = q := ⟨_, rfl⟩
        rw [hrs]
        rw [hrs] at HQ
        have hrs0 : 0 ≤ rs := by omega
        have hrs1 : rs ≤ 192000000 := by omega
        clear b6 b7 hrs
        go_upto_if 249 with fail
        go_cut [] from 249 to 306 (fun wx => wx = W)
        case first => as_aux_lemma =>
            obtain ⟨hlx, x0, x1, x2⟩ := PartAt.rows R.out HXK.out
            have bgm := mulP (a := gl) (b := M) (M := 800) (N := 240000) (by omega) (by omega)
            have v1 : IntKind.i64.wrap (gl * M) = gl * M := IntWalk.i64_in _ (by omega)
            rcases HQ.out with ⟨rfl, ⟨r0, r1'⟩, hge, hlt⟩ | ⟨rfl, hlt⟩
            · have b1 := mulP (a := x.fMass) (b := r) (M := 40000) (N := 8000) (by omega) (by omega)
              have v2 : IntKind.i64.wrap (x.fMass * r) = x.fMass * r := IntWalk.i64_in _ (by omega)
              have v3 : IntKind.i64.wrap (rs + x.fMass * r) = rs + x.fMass * r := IntWalk.i64_in _ (by omega)
              have c1 : ¬ r < 0 := by omega
              have c2 : ¬ 8000 < r := by omega
              have c3 : ¬ rs + x.fMass * r < gl * M := by omega
              by_cases hr0 : 0 < r
              · as_aux_lemma =>
                  have hl9 := hlt hr0
                  have b3 := mulP (a := x.fMass) (b := r - 1) (M := 40000) (N := 8000) (by omega) (by omega)
                  have v4 : IntKind.i64.wrap (r - 1) = r - 1 := IntWalk.i64_in _ (by omega)
                  have v5 : IntKind.i64.wrap (x.fMass * (r - 1)) = x.fMass * (r - 1) := IntWalk.i64_in _ (by omega)
                  have v6 : IntKind.i64.wrap (rs + x.fMass * (r - 1)) = rs + x.fMass * (r - 1) := IntWalk.i64_in _ (by omega)
                  have c4 : ¬ gl * M ≤ rs + x.fMass * (r - 1) := by omega
                  have e0 : decide (0 < r) = true := decide_eq_true hr0
                  clear hlt hl9 hge b1 b3 bgm
                  go_wp2_with fail
                  go_meet
                  rfl
              · as_aux_lemma =>
                  have e0 : decide (0 < r) = false := decide_eq_false hr0
                  clear hlt hge b1 bgm
                  go_wp2_with fail
                  go_meet
                  rfl
            · as_aux_lemma =>
                have v2 : IntKind.i64.wrap (x.fMass * 8000) = x.fMass * 8000 := IntWalk.i64_in _ (by omega)
                have v3 : IntKind.i64.wrap (rs + x.fMass * 8000) = rs + x.fMass * 8000 := IntWalk.i64_in _ (by omega)
                have c3 : ¬ gl * M ≤ rs + x.fMass * 8000 := by omega
                clear hlt bgm
                go_wp2_with fail
                go_meet
                rfl
        case rest =>
          obtain rfl := hcut
          clear HQ hrs0 hrs1
          obtain ⟨hlx, x0, x1, x2⟩ := PartAt.rows R.out HXK.out
          go_wp2_with fail
          refine (Without_n _ cc n xs _ R.out DX.out HN.out HCAP.out k x HXK.out).mono ?_
          rintro e w9 ⟨Aw, mw, cw, dw, rfl, hwo, hb⟩
          replace R := hid (R.out.below hb)
          replace HB := hid (HB.out.below hb)
          replace BL := hid (below_trans BL.out hb)
          have HWO := hid hwo
          clear hwo x0 x1 x2 hlx p0 p1 m0 m1 q0 q1
          clear hb
          go_upto_region 41 with fail
          rename World => w2
          go_cut [340] from 317 to 340 (fun s wx => s = .bool false ∧ wx = w2)
          case first => as_aux_lemma =>
              rcases HWO.out with ⟨h1, rfl⟩ | ⟨h1, rfl, hmw⟩
              · as_aux_lemma =>
                  have f1 : (n : Int) = 1 := by omega
                  have f2 : ((n : Int) == 1) = true := by rw [beq_iff_eq]; exact f1
                  subst h1
                  go_wp2_with fail
                  go_meet
                  exact ⟨rfl, rfl⟩
              · as_aux_lemma =>
                  have f1 : ¬ (n : Int) = 1 := by omega
                  have f2 : ((n : Int) == 1) = false := by rw [beq_eq_false_iff_ne]; exact f1
                  have f3 : (1 : Int) < (n : Int) := by omega
                  have vn : IntKind.i64.wrap ((n : Int) - 1) = (mw : Int) := (IntWalk.i64_in _ (by omega)).trans (by omega)
                  clear hmw
                  go_wp2_with fail
                  go_meet
                  exact ⟨rfl, rfl⟩
          case rest =>
            obtain ⟨rfl, rfl⟩ := hcut
            clear HWO
            obtain ⟨ts, hts⟩ : ∃ s, sumB (inerP a) xs n = s := ⟨_, rfl⟩
            have hb3 := iner_bd DX.out (a := a) ⟨by omega, by omega⟩ n (by rw [HN.out]; exact Nat.le_refl _)
            rw [hts] at hb3
            obtain ⟨ti, hti⟩ : ∃ r, ts / 1000 = r := ⟨_, rfl⟩
            have hti2 : ts.tdiv 1000 = ti := by rw [← hti]; exact Int.tdiv_eq_ediv_of_nonneg hb3.1
            have HTS := hid hts
            have HTI := hid hti
            have HTI2 := hid hti2
            have HB3 := hid hb3
            clear hts hti hti2 hb3
            go_wp2_with fail
            refine (Inertia_n _ cc n xs _ R.out DX.out HN.out a ts ti ⟨by omega, by omega⟩ HTS.out HTI.out).mono ?_
            rintro e w9 ⟨rfl, hb⟩
            replace R := hid (R.out.below hb)
            replace HB := hid (HB.out.below hb)
            replace BL := hid (below_trans BL.out hb)
            clear hb
            go_wp2_with fail
            rename World => w3
            go_loopw [29, 30] (fun s i wr => ∃ k : Nat, k ≤ n ∧ i = .int .i64 (k : Int) ∧ s = .int .i64 (sumB (inerP a) xs k) ∧ Below w3.heap.size w3 wr) (fun _ i _ => n - (intOf i).toNat)
            case atStart => exact ⟨0, Nat.zero_le _, rfl, rfl, Below.refl _ _⟩
            case round =>
              obtain ⟨k, hk, rfl, rfl, hbel⟩ := hrel
              by_cases hkl : k < n
              · as_aux_lemma =>
                  obtain ⟨x, hx⟩ : ∃ x, xs[k]? = some x := ⟨_, List.getElem?_eq_getElem (by rw [HN.out]; exact hkl)⟩
                  have HXS := hid (DX.out.one x (List.mem_of_getElem? hx))
                  have HE1 := hid (show sumB (inerP a) xs (k + 1) = sumB (inerP a) xs k + x.fMass * (x.fAt - a) * (x.fAt - a) from sumB_next (f := inerP a) hx)
                  have b1 := iner_bd DX.out (a := a) ⟨by omega, by omega⟩ k (by rw [HN.out]; exact hk)
                  have b3 := iner_one HXS.out (a := a) ⟨by omega, by omega⟩
                  unfold inerP at b3
                  obtain ⟨-, -, p0, p1, m0, m1⟩ := HXS.out
                  have b5 : -(32000000 : Int) ≤ x.fMass * (x.fAt - a) ∧ x.fMass * (x.fAt - a) ≤ 32000000 := by
                    rcases Int.lt_or_le (x.fAt - a) 0 with h | h
                    · have h1 := mulP (a := x.fMass) (b := -(x.fAt - a)) (M := 40000) (N := 800) (by omega) (by omega)
                      rw [Int.mul_neg] at h1
                      omega
                    · have h1 := mulP (a := x.fMass) (b := x.fAt - a) (M := 40000) (N := 800) (by omega) (by omega)
                      omega
                  obtain ⟨s2, hs2⟩ : ∃ s, sumB (inerP a) xs k = s := ⟨_, rfl⟩
                  rw [hs2] at b1 HE1
                  rw [hs2]
                  have v1 : IntKind.i64.wrap (x.fAt - a) = x.fAt - a := IntWalk.i64_in _ (by omega)
                  have v2 : IntKind.i64.wrap (x.fMass * (x.fAt - a)) = x.fMass * (x.fAt - a) := IntWalk.i64_in _ (by omega)
                  have v3 : IntKind.i64.wrap (x.fMass * (x.fAt - a) * (x.fAt - a)) = x.fMass * (x.fAt - a) * (x.fAt - a) := IntWalk.i64_in _ (by omega)
                  have v4 : IntKind.i64.wrap (s2 + x.fMass * (x.fAt - a) * (x.fAt - a)) = s2 + x.fMass * (x.fAt - a) * (x.fAt - a) := IntWalk.i64_in _ (by omega)
                  obtain ⟨hlx, x0, x1, x2⟩ := PartAt.rows (R.out.below hbel) hx
                  have BB := hid hbel
                  have q0 : (0 : Int) ≤ (k : Int) := by omega
                  have q1 : (k : Int) < n := by omega
                  clear hs2 b1 b3 b5 p0 p1 m0 m1 hx hbel
                  go_wp2_with fail
                  go_quiet (fail)
                  rename Nat => nq
                  clear x0 x1 x2 hlx v1 v2 v3 v4
                  go_wp2_with fail
                  go_roundw
                  case rel => exact ⟨k + 1, by omega, by go_num, by rw [HE1.out], below_drewN' BB.out nq⟩
                  case measure => simp [intOf]; omega
              · have hk2 : k = n := by omega
                have q1 : ¬ (k : Int) < n := by omega
                rw [show sumB (inerP a) xs k = ts by rw [hk2]; exact HTS.out]
                replace HB := hid (HB.out.below hbel)
                replace BL := hid (below_trans BL.out hbel)
                rename World => w4
                have S4 := hid (World.ownsRow_lit (base := w4.heap.size) (e := 2) (size := 1) w4 #[] 0 (Nat.le_refl _) (by unfold maxLen; omega) rfl)
                have hba := below_alloc w4 (.cells #[] 2)
                have HB4 := hid HB.out
                replace HB := hid (HB.out.below hba)
                have B4 := hid hba
                clear hbel R hk2 hkl hk hba
                go_wp2_with fail
                refine (r8At_ok B d ms 5 8 _ HB.out HBb.out hm2 (by omega) (by omega)).mono ?_
                rintro e w8 ⟨⟨r5, rfl, r50, r51⟩, rfl⟩
                obtain ⟨nn, hnn⟩ : ∃ nn : Nat, 3 + r5 = (nn : Int) := ⟨(3 + r5).toNat, by omega⟩
                have vnn : IntKind.i64.wrap (3 + r5) = (nn : Int) := (IntWalk.i64_in _ (by omega)).trans hnn
                have nn3 : 3 ≤ nn := by omega
                have nn10 : nn ≤ 10 := by omega
                clear hnn r50 r51
                go_wp2_with fail
                clear vnn
                rename World => w4
                go_loopw [31, 33] (fun v i wr => ∃ (k : Nat) (hs : List Int) (g3 c3 : Nat), k ≤ nn ∧ i = .int .i64 (k : Int) ∧ v = .slice (some ⟨g3, 0, none⟩) k c3 ∧ hs.length = k ∧ (∀ h ∈ hs, -100 ≤ h ∧ h ≤ 100) ∧ wr.ownsRow w4.heap.size 2 1 (.slice (some ⟨g3, 0, none⟩) k c3) k (hs.map (Value.int .i64)) ∧ Below w4.heap.size w4 wr) (fun _ i _ => nn - (intOf i).toNat)
                case atStart => exact ⟨0, [], _, _, Nat.zero_le _, rfl, rfl, rfl, fun h hh => (by cases hh), S4.out, B4.out⟩
                case round =>
                  obtain ⟨k, hs, g3, c3, hk, rfl, rfl, hhl, hhb, hown, hbel⟩ := hrel
                  have O := hid hown
                  have BB := hid hbel
                  have HHB := hid hhb
                  have HHL := hid hhl
                  have BY := hid (HB4.out.below hbel)
                  clear hhl hhb hown hbel
                  by_cases hkl : k < nn
                  · as_aux_lemma =>
                      obtain ⟨kk, hkk⟩ : ∃ kk, kk = 10 + k := ⟨_, rfl⟩
                      have vk : IntKind.i64.wrap (10 + (k : Int)) = (kk : Int) := (IntWalk.i64_in _ (by omega)).trans (by omega)
                      have q1 : (k : Int) < nn := by omega
                      clear hkk
                      go_wp2_with fail
                      refine (r8At_ok B d ms kk 200 _ BY.out HBb.out hm2 (by omega) (by omega)).mono ?_
                      rintro e w8 ⟨⟨rh, rfl, rh0, rh1⟩, rfl⟩
                      have vr : IntKind.i64.wrap (rh - 100) = rh - 100 := IntWalk.i64_in _ (by omega)
                      clear vk
                      go_wp2_with (at_builtin; refine wpList_app (w0 := w4) rfl (.tmp 385) (.tmp 391) 74 rfl w4.heap.size 2 (.int .i64 0) 1 8 Tryd.underlying74 infoI rfl (by decide) _ _ _ rfl O.out #[.int .i64 (rh - 100)] 1 1 rfl rfl (by simp [Value.oneCell']) (by omega) BB.out.size BB.out ?_; intro v1 w6 hown1 hbel1 hz1 _; obtain ⟨g6, c6, rfl, hf6⟩ := own_form hown1 (by omega))
                      go_roundw
                      case rel => exact ⟨k + 1, hs ++ [rh - 100], g6, c6, by omega, by go_num, rfl, by rw [List.length_append, HHL.out]; rfl, fun h hh => by
                          rcases List.mem_append.1 hh with h1 | h1
                          · exact HHB.out h h1
                          · rw [List.mem_singleton.1 h1]; omega, by rw [List.map_append]; exact hown1, hbel1⟩
                      case measure => simp [intOf]; omega
                  · have hk2 : k = nn := by omega
                    subst hk2
                    have q1 : ¬ (k : Int) < k := by omega
                    obtain ⟨st, hst⟩ : ∃ st, k = st + 1 := ⟨k - 1, by omega⟩
                    have HST := hid hst
                    have HX := hid (show HgtB hs from ⟨HHB.out, by rw [HHL.out]; exact nn3, by rw [HHL.out]; exact nn10⟩)
                    have IA := hid (hgt_own O.out)
                    replace BL := hid (below_trans BL.out BB.out)
                    have s2 : 2 ≤ st := by omega
                    have s9 : st ≤ 9 := by omega
                    have hsk : st < k := by omega
                    clear hst HB HB4 BY S4 B4 O BB hkl hk
                    go_wp2_with fail
                    refine (Camber_n _ c3 k hs _ IA.out HX.out HHL.out st HST.out).mono ?_
                    rintro e w9 ⟨sp, dv, rfl, hspn, hmx, ⟨dv0, dv1⟩, hnr, hb⟩
                    replace IA := hid (IA.out.below hb)
                    replace BL := hid (below_trans BL.out hb)
                    have HMX := hid hmx
                    have HNR := hid hnr
                    clear hmx hnr
                    clear hb
                    go_wp2_with fail
                    refine (CamberGap_ok _ c3 k hs _ IA.out HX.out HHL.out).mono ?_
                    rintro e w9 ⟨⟨um, rfl, ⟨um0, um1⟩, hbend⟩, hb⟩
                    replace IA := hid (IA.out.below hb)
                    replace BL := hid (below_trans BL.out hb)
                    have HBE := hid hbend
                    clear hbend
                    clear hb
                    have hq1 := HTI.out
                    obtain ⟨ts0, ts1⟩ := HB3.out
                    have c1 : ¬ (sp : Int) < 0 := by omega
                    have c2 : ¬ (k : Int) ≤ (sp : Int) := by omega
                    have c3' : ¬ dv < 0 := by omega
                    have c4 : decide (k ≤ sp) = false := decide_eq_false (by omega)
                    have c5 : decide ((sp : Int) < 0) = false := decide_eq_false c1
                    have c6 : decide (dv < 0) = false := decide_eq_false c3'
                    have vs : IntKind.i64.wrap ((k : Int) - 1) = (st : Int) := (IntWalk.i64_in _ (by omega)).trans (by have := HST.out; omega)
                    obtain ⟨ab, ao, hae, hlt, hc⟩ := hgt_cells IA.out HHL.out (by omega)
                    injection hae with hae
                    injection hae with ha1 ha2
                    subst ha1 ha2
                    have HC := hid (show ∀ wb, Below w9.heap.size w9 wb → ∀ i, i < k → wb.cell? ⟨g3, i, none⟩ = some (.int .i64 (hAt hs i)) from fun wb hb i hi => by
                      have h1 := hc i hi
                      rw [Nat.zero_add] at h1
                      exact (hb.cell (p := ⟨g3, i, none⟩) hlt).trans h1)
                    clear hc hlt
                    go_upto_region 60 with fail
                    clear hq1 ts0 ts1 c1 c2 c3' c4 c5 c6 vs
                    have z0 := hAt_bd HX.out 0
                    have zs := hAt_bd HX.out st
                    have zp := hAt_bd HX.out sp
                    have x0 := HC.out w9 (Below.refl _ _) 0 (by omega)
                    have xs' := HC.out w9 (Below.refl _ _) st hsk
                    have xp := HC.out w9 (Below.refl _ _) sp hspn
                    have HOW := hid (ownE_eq (hs := hs) (st := st) (by rw [HHL.out, HST.out]))
                    have hsp2 := HOW.out sp
                    unfold ownE at hsp2
                    have HCM := hid (show ∀ i, i < k → ¬ depthL hs sp < hAt hs 0 * ((st : Int) - (i : Int)) + hAt hs st * (i : Int) - (st : Int) * hAt hs i from fun i hi => by
                      have h1 := HOW.out i
                      unfold ownE at h1
                      have h2 := HMX.out i hi
                      rw [h1]
                      omega)
                    obtain ⟨f, hf⟩ : ∃ f, hAt hs 0 = f := ⟨_, rfl⟩
                    obtain ⟨l, hl⟩ : ∃ l, hAt hs st = l := ⟨_, rfl⟩
                    obtain ⟨hp, hhp⟩ : ∃ h, hAt hs sp = h := ⟨_, rfl⟩
                    obtain ⟨D, hD⟩ : ∃ D, depthL hs sp = D := ⟨_, rfl⟩
                    have HF := hid hf
                    have HL := hid hl
                    rw [hf] at x0 z0
                    rw [hl] at xs' zs
                    rw [hhp] at xp zp
                    rw [hf, hl, hhp, hD] at hsp2
                    rw [hD] at HNR
                    rw [hf, hl, hD] at HCM
                    have hDb := depth_bd HX.out (st := st) (i := sp) (by rw [HHL.out, HST.out]) (by have := HST.out; omega)
                    rw [hD] at hDb
                    clear hf hl hhp hD
                    have i0 : (0 : Int) < (k : Int) := by omega
                    have i1 : (0 : Int) ≤ (st : Int) := by omega
                    have i2 : (st : Int) < (k : Int) := by omega
                    have i3 : (0 : Int) ≤ (sp : Int) := by omega
                    have i4 : (sp : Int) < (k : Int) := by omega
                    have hps : (sp : Int) ≤ (st : Int) := by have := HST.out; omega
                    have m1 := mulS (a := f) (b := (st : Int) - (sp : Int)) (by omega) (by omega)
                    have m2 := mulS (a := l) (b := (sp : Int)) (by omega) (by omega)
                    have m3 := mulS (a := (st : Int)) (b := hp) (by omega) (by omega)
                    have v1 : IntKind.i64.wrap ((st : Int) - (sp : Int)) = (st : Int) - (sp : Int) := IntWalk.i64_in _ (by omega)
                    have v2 : IntKind.i64.wrap (f * ((st : Int) - (sp : Int))) = f * ((st : Int) - (sp : Int)) := IntWalk.i64_in _ (by omega)
                    have v3 : IntKind.i64.wrap (l * (sp : Int)) = l * (sp : Int) := IntWalk.i64_in _ (by omega)
                    have v4 : IntKind.i64.wrap (f * ((st : Int) - (sp : Int)) + l * (sp : Int)) = f * ((st : Int) - (sp : Int)) + l * (sp : Int) := IntWalk.i64_in _ (by omega)
                    have v5 : IntKind.i64.wrap ((st : Int) * hp) = (st : Int) * hp := IntWalk.i64_in _ (by omega)
                    have HS2 := hid hsp2
                    have v6 : IntKind.i64.wrap (f * ((st : Int) - (sp : Int)) + l * (sp : Int) - (st : Int) * hp) = D := (IntWalk.i64_in _ (by omega)).trans hsp2
                    clear hsp2 m1 m2 m3
                    go_quiet (fail)
                    rename Nat => nq
                    clear v1 v2 v3 v4 v5 v6 x0 xs' xp
                    have BQ := hid (below_drewN w9 nq)
                    obtain ⟨W5, hW5⟩ : ∃ W, W = w9.drewN nq := ⟨_, rfl⟩
                    rw [← hW5]
                    rw [← hW5] at BQ
                    have HC5 := hid (show ∀ wb, Below W5.heap.size W5 wb → ∀ i, i < k → wb.cell? ⟨g3, i, none⟩ = some (.int .i64 (hAt hs i)) from fun wb hb i hi => HC.out wb (below_trans BQ.out hb) i hi)
                    replace BL := hid (below_trans BL.out BQ.out)
                    clear hW5 BQ HC
                    go_wp2_with fail
                    go_loopw [41] (fun i wr => ∃ j : Nat, j ≤ k ∧ i = .int .i64 (j : Int) ∧ Below W5.heap.size W5 wr) (fun i _ => k - (intOf i).toNat)
                    case atStart => exact ⟨0, Nat.zero_le _, rfl, Below.refl _ _⟩
                    case round =>
                      obtain ⟨j, hj, rfl, hbel⟩ := hrel
                      have BB := hid hbel
                      clear hbel
                      by_cases hjl : j < k
                      · as_aux_lemma =>
                          have zj := hAt_bd HX.out j
                          have x0 := HC5.out wr BB.out 0 (by omega)
                          have xs' := HC5.out wr BB.out st hsk
                          have xj := HC5.out wr BB.out j hjl
                          have hcm := HCM.out j hjl
                          rw [HF.out] at x0
                          rw [HL.out] at xs'
                          obtain ⟨h, hh⟩ : ∃ h, hAt hs j = h := ⟨_, rfl⟩
                          have HH := hid hh
                          rw [hh] at xj zj hcm
                          have hjs : (j : Int) ≤ (st : Int) := by have := HST.out; omega
                          have m1 := mulS (a := f) (b := (st : Int) - (j : Int)) (by omega) (by omega)
                          have m2 := mulS (a := l) (b := (j : Int)) (by omega) (by omega)
                          have m3 := mulS (a := (st : Int)) (b := h) (by omega) (by omega)
                          have v1 : IntKind.i64.wrap ((st : Int) - (j : Int)) = (st : Int) - (j : Int) := IntWalk.i64_in _ (by omega)
                          have v2 : IntKind.i64.wrap (f * ((st : Int) - (j : Int))) = f * ((st : Int) - (j : Int)) := IntWalk.i64_in _ (by omega)
                          have v3 : IntKind.i64.wrap (l * (j : Int)) = l * (j : Int) := IntWalk.i64_in _ (by omega)
                          have v4 : IntKind.i64.wrap (f * ((st : Int) - (j : Int)) + l * (j : Int)) = f * ((st : Int) - (j : Int)) + l * (j : Int) := IntWalk.i64_in _ (by omega)
                          have v5 : IntKind.i64.wrap ((st : Int) * h) = (st : Int) * h := IntWalk.i64_in _ (by omega)
                          have v6 : IntKind.i64.wrap (f * ((st : Int) - (j : Int)) + l * (j : Int) - (st : Int) * h) = f * ((st : Int) - (j : Int)) + l * (j : Int) - (st : Int) * h := IntWalk.i64_in _ (by omega)
                          have q0 : (0 : Int) ≤ (j : Int) := by omega
                          have q1 : (j : Int) < (k : Int) := by omega
                          clear hh m1 m2 m3
                          go_wp2_with fail
                          go_quiet (fail)
                          rename Nat => nq1
                          clear x0 xs' xj v1 v2 v3 v4 v5 v6
                          replace BB := hid (below_drewN' BB.out nq1)
                          obtain ⟨W6, hW6⟩ : ∃ W, W = wr.drewN nq1 := ⟨_, rfl⟩
                          rw [← hW6]
                          rw [← hW6] at BB
                          clear hW6
                          rcases Nat.lt_or_ge 0 j with hj0 | hj0
                          · rcases Nat.lt_or_ge j st with hjt | hjt
                            · obtain ⟨u, hu⟩ : ∃ u, j = u + 1 := ⟨j - 1, by omega⟩
                              obtain ⟨v, hv⟩ : ∃ v, v = j + 1 := ⟨_, rfl⟩
                              have hvk : v < k := by have := HST.out; omega
                              have xu := HC5.out W6 BB.out u (by omega)
                              have xj := HC5.out W6 BB.out j hjl
                              have xv := HC5.out W6 BB.out v hvk
                              have zu := hAt_bd HX.out u
                              have zv := hAt_bd HX.out v
                              have hbe := HBE.out u (by omega)
                              have hbd : bendL hs u = hAt hs u + hAt hs v - 2 * h := by unfold bendL; rw [show u + 2 = v by omega, show u + 1 = j by omega, HH.out]
                              rw [hbd] at hbe
                              rw [HH.out] at xj
                              obtain ⟨ha, hha⟩ : ∃ x, hAt hs u = x := ⟨_, rfl⟩
                              obtain ⟨hb, hhb⟩ : ∃ x, hAt hs v = x := ⟨_, rfl⟩
                              rw [hha] at xu zu hbe
                              rw [hhb] at xv zv hbe
                              obtain ⟨rr, hrr⟩ : ∃ r, max (ha + hb - 2 * h) (-(ha + hb - 2 * h)) = r := ⟨_, rfl⟩
                              have c1 : ¬ um < rr := by omega
                              have vu : IntKind.i64.wrap ((j : Int) - 1) = (u : Int) := (IntWalk.i64_in _ (by omega)).trans (by omega)
                              have vv : IntKind.i64.wrap ((j : Int) + 1) = (v : Int) := (IntWalk.i64_in _ (by omega)).trans (by omega)
                              have v1 : IntKind.i64.wrap (ha + hb) = ha + hb := IntWalk.i64_in _ (by omega)
                              have v2 : IntKind.i64.wrap (2 * h) = 2 * h := IntWalk.i64_in _ (by omega)
                              have v3 : IntKind.i64.wrap (ha + hb - 2 * h) = ha + hb - 2 * h := IntWalk.i64_in _ (by omega)
                              have e0 : decide (0 < j) = true := by simpa using hj0
                              have e1 : decide (j < st) = true := by simpa using hjt
                              have f0 : (0 : Int) < (j : Int) := by omega
                              have f1 : (j : Int) < (st : Int) := by omega
                              have u0 : (0 : Int) ≤ (u : Int) := by omega
                              have u1 : (u : Int) < (k : Int) := by omega
                              have w0' : (0 : Int) ≤ (v : Int) := by omega
                              have w1' : (v : Int) < (k : Int) := by omega
                              have k1 : -1000000000000 ≤ ha + hb - 2 * h := by omega
                              have k2 : ha + hb - 2 * h ≤ 1000000000000 := by omega
                              have HRR := hid hrr
                              have HV := hid hv
                              have HVV := hid (show (j : Int) + 1 = (v : Int) by omega)
                              clear hu hv hbe hbd hha hhb hrr
                              go_wp2_with fail
                              go_quiet ((go_at_call 40; with_reducible exact quiet_left (abs_n _ _ _ k1 k2 HRR.out)))
                              rename Nat => nq2
                              clear xu xj xv vu v1 v2 v3
                              have BB2 := hid (below_drewN' BB.out nq2)
                              go_wp2_with fail
                              clear vv
                              go_roundw
                              case rel => exact ⟨j + 1, by omega, by rw [← HVV.out]; go_num, BB2.out⟩
                              case measure =>
                                have := HV.out
                                simp [intOf]
                                omega
                            · have e0 : decide (0 < j) = true := by simpa using hj0
                              have e1 : decide (j < st) = false := by simpa using hjt
                              have f0 : (0 : Int) < (j : Int) := by omega
                              have f1 : ¬ (j : Int) < (st : Int) := by omega
                              go_wp2_with fail
                              go_quiet (fail)
                              rename Nat => nq2
                              have BB2 := hid (below_drewN' BB.out nq2)
                              go_wp2_with fail
                              go_roundw
                              case rel => exact ⟨j + 1, by omega, by go_num, BB2.out⟩
                              case measure => simp [intOf]; omega
                          · have e0 : decide (0 < j) = false := by simp; omega
                            have f0 : ¬ (0 : Int) < (j : Int) := by omega
                            go_wp2_with fail
                            go_quiet (fail)
                            rename Nat => nq2
                            have BB2 := hid (below_drewN' BB.out nq2)
                            go_wp2_with fail
                            go_roundw
                            case rel => exact ⟨j + 1, by omega, by go_num, BB2.out⟩
                            case measure => simp [intOf]; omega
                      · have q1 : ¬ (j : Int) < (k : Int) := by omega
                        obtain ⟨nr1, nr2⟩ := HNR.out
                        obtain ⟨rr, hrr⟩ : ∃ r, max (dv * (st : Int) - D) (-(dv * (st : Int) - D)) = r := ⟨_, rfl⟩
                        have c1 : 2 * rr ≤ (st : Int) := by omega
                        have v1 : IntKind.i64.wrap (dv * (st : Int)) = dv * (st : Int) := IntWalk.i64_in _ (by omega)
                        have v2 : IntKind.i64.wrap (dv * (st : Int) - D) = dv * (st : Int) - D := IntWalk.i64_in _ (by omega)
                        have v3 : IntKind.i64.wrap (2 * rr) = 2 * rr := IntWalk.i64_in _ (by omega)
                        have k1 : -1000000000000 ≤ dv * (st : Int) - D := by omega
                        have k2 : dv * (st : Int) - D ≤ 1000000000000 := by omega
                        have HRR := hid hrr
                        replace BL := hid (below_trans BL.out BB.out)
                        clear hrr nr1 nr2 BB
                        go_wp2_with fail
                        refine (abs_n (dv * (st : Int) - D) rr _ k1 k2 HRR.out).mono ?_
                        rintro e w8 ⟨rfl, rfl⟩
                        go_wp2_with fail
                        go_ret
                        exact ⟨by first | rfl | simp [c1], BL.out⟩
end Go.Proofs.YtmfadjdpbobfhaaDoor
