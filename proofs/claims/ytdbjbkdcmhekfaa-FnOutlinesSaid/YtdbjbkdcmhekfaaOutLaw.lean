/- The law FnOutlines. -/
import Derived.Test.YtdbjbkdcmhekfaaOutK
import Derived.Deep.QuietTactic
namespace Go.Proofs.Ytdbjbkdcmhekfaa
open Go.RowKit
set_option linter.unusedVariables false

set_option maxHeartbeats 6400000 in
set_option maxRecDepth 100000 in
theorem lawFnOutlines_ok (A : Option Addr) (c : Nat) (ns : List Int) (B : Option Addr) (d : Nat) (ms : List Int) (w : World) (hA : BytesAt w A ns) (hBa : ByteIn ns) (hl : ns.length ≤ maxLen) (hB : BytesAt w B ms) (hBb : ByteIn ms) (hm : ms.length ≤ maxLen) :
    Calls Try.prog 8 #[.slice A ns.length c, .slice B ms.length d] w fun e w' => e = .returned (.bool true) ∧ Below w.heap.size w w' := by
  have HA := hid hA
  have HB := hid hB
  have HBa := hid hBa
  have HBb := hid hBb
  clear hA hB hBa hBb
  go_enter Try.func8, Try.ntmps8
  go_wp2_with fail
  refine (r8Long_ok A c ns.length B d ms.length _ hl hm).mono ?_
  rintro e w1 ⟨rfl, rfl⟩
  cases hlong : (decide (1048576 < ns.length) || decide (1048576 < ms.length))
  case true =>
    go_wp2_with fail
    go_ret
    exact ⟨rfl, Below.refl _ _⟩
  have hl2 : ns.length ≤ 1048576 := by simp at hlong; omega
  have hm2 : ms.length ≤ 1048576 := by simp at hlong; omega
  clear hlong
  go_wp2_with fail
  refine (outline_n A c ns _ HA.out HBa.out hl2).mono ?_
  rintro e w9 ⟨xs, n, g, cc, hn, rfl, hd, hR, hb⟩
  obtain ⟨n2, n16⟩ := outOk_n hd.ok hn
  have DX := hid hd
  have HN := hid hn
  have R := hid hR
  have BL := hid hb
  replace HB := hid (HB.out.below hb)
  clear hb hd hn hR HA HBa
  go_wp2_with fail
  refine (r8Wide_ok B d ms 0 0 900 _ HB.out HBb.out hm2 (by omega) rfl (by omega) (by omega)).mono ?_
  rintro e w8 ⟨⟨k, rfl, k0, k1⟩, rfl⟩
  go_wp2_with fail
  refine (r8Wide_ok B d ms 2 2 900 _ HB.out HBb.out hm2 (by omega) rfl (by omega) (by omega)).mono ?_
  rintro e w8 ⟨⟨m, rfl, m0, m1⟩, rfl⟩
  obtain ⟨m, rfl⟩ : ∃ m', m = m' - 1 := ⟨m + 1, by omega⟩
  have vm : IntKind.i64.wrap (1 + (m - 1)) = m := (IntWalk.i64_in _ (by omega)).trans (by omega)
  have HV := hid (oval_ok (k := k) (m := m) ⟨by omega, by omega⟩ ⟨by omega, by omega⟩)
  go_wp2_with fail
  refine (Oval_n k m _ ⟨by omega, by omega⟩ ⟨by omega, by omega⟩).mono ?_
  rintro e w9 ⟨g2, c2, rfl, hR, hb⟩
  replace R := hid (R.out.below hb)
  replace BL := hid (below_trans BL.out hb)
  replace HB := hid (HB.out.below hb)
  have RO := hid hR
  clear hR vm
  clear hb
  obtain ⟨cs, hcs⟩ : ∃ cs, corners xs = cs := ⟨_, rfl⟩
  obtain ⟨cl, hcl⟩ : ∃ cl, cs.length = cl := ⟨_, rfl⟩
  have hcl16 : cl ≤ 16 := by have := corners_len xs; rw [hcs, hcl] at this; have := HN.out; omega
  have HCS := hid hcs
  have HCL := hid hcl
  clear hcs hcl
  go_wp2_with fail
  refine (CornersOf_n _ _ n cl cs xs _ R.out DX.out.ok HN.out HCS.out HCL.out).mono ?_
  rintro e w9 ⟨A3, c3, rfl, hI, hb⟩
  replace R := hid (R.out.below hb)
  replace BL := hid (below_trans BL.out hb)
  replace HB := hid (HB.out.below hb)
  replace RO := hid (RO.out.below hb)
  have IC := hid hI
  clear hI
  clear hb
  go_wp2_with fail
  refine (r8Wide_ok B d ms 4 4 3000 _ HB.out HBb.out hm2 (by omega) rfl (by omega) (by omega)).mono ?_
  rintro e w8 ⟨⟨p, rfl, p0, p1⟩, rfl⟩
  have vp : IntKind.i64.wrap (p - 1500) = p - 1500 := IntWalk.i64_in _ (by omega)
  go_wp2_with fail
  refine (r8Wide_ok B d ms 6 6 3000 _ HB.out HBb.out hm2 (by omega) rfl (by omega) (by omega)).mono ?_
  rintro e w8 ⟨⟨q, rfl, q0, q1⟩, rfl⟩
  have vq : IntKind.i64.wrap (q - 1500) = q - 1500 := IntWalk.i64_in _ (by omega)
  have HMO := hid (outOk_mov (p := p - 1500) (q := q - 1500) DX.out.ok DX.out.small ⟨by omega, by omega⟩ ⟨by omega, by omega⟩)
  have HMI := hid (outOk_mir DX.out.ok)
  go_wp2_with fail
  refine (Move_n _ _ n xs _ R.out DX.out.ok HN.out (p - 1500) (q - 1500) DX.out.small ⟨by omega, by omega⟩ ⟨by omega, by omega⟩).mono ?_
  rintro e w9 ⟨gm, cm, rfl, hR, hb⟩
  replace R := hid (R.out.below hb)
  replace BL := hid (below_trans BL.out hb)
  replace HB := hid (HB.out.below hb)
  replace RO := hid (RO.out.below hb)
  replace IC := hid (IC.out.below hb)
  have RM := hid hR
  clear hR vp vq
  clear hb
  obtain ⟨pp, hpp⟩ : ∃ pp, p - 1500 = pp := ⟨_, rfl⟩
  obtain ⟨qq, hqq⟩ : ∃ qq, q - 1500 = qq := ⟨_, rfl⟩
  rw [hpp, hqq] at HMO RM
  clear hpp hqq p0 p1 q0 q1
  go_wp2_with fail
  refine (Mirror_n _ _ n xs _ R.out DX.out.ok HN.out).mono ?_
  rintro e w9 ⟨gi, ci, rfl, hR, hb⟩
  replace R := hid (R.out.below hb)
  replace BL := hid (below_trans BL.out hb)
  replace HB := hid (HB.out.below hb)
  replace RO := hid (RO.out.below hb)
  replace IC := hid (IC.out.below hb)
  replace RM := hid (RM.out.below hb)
  have RI := hid hR
  clear hR
  clear hb
  obtain ⟨ar, har⟩ : ∃ a, areaL xs = a := ⟨_, rfl⟩
  have HAR := hid har
  clear har
  go_wp2_with fail
  refine (TwiceArea_n _ _ n ar xs _ R.out DX.out.ok HN.out HAR.out).mono ?_
  rintro e w9 ⟨rfl, hb⟩
  replace R := hid (R.out.below hb)
  replace BL := hid (below_trans BL.out hb)
  replace HB := hid (HB.out.below hb)
  replace RO := hid (RO.out.below hb)
  replace IC := hid (IC.out.below hb)
  replace RM := hid (RM.out.below hb)
  replace RI := hid (RI.out.below hb)
  clear hb
  go_wp2_with fail
  refine (specSmooth_n _ _ 4 true (ovalL k m) _ RO.out HV.out rfl (oval_empty k m)).mono ?_
  rintro e w9 ⟨rfl, hb⟩
  replace R := hid (R.out.below hb)
  replace BL := hid (below_trans BL.out hb)
  replace HB := hid (HB.out.below hb)
  replace RO := hid (RO.out.below hb)
  replace IC := hid (IC.out.below hb)
  replace RM := hid (RM.out.below hb)
  replace RI := hid (RI.out.below hb)
  clear hb
  go_wp2_with fail
  refine (implSmooth_n _ _ 4 true (ovalL k m) _ RO.out HV.out rfl (oval_empty k m)).mono ?_
  rintro e w9 ⟨rfl, hb⟩
  replace R := hid (R.out.below hb)
  replace BL := hid (below_trans BL.out hb)
  replace HB := hid (HB.out.below hb)
  replace RO := hid (RO.out.below hb)
  replace IC := hid (IC.out.below hb)
  replace RM := hid (RM.out.below hb)
  replace RI := hid (RI.out.below hb)
  clear hb
  clear RO HV k0 k1 m0 m1 HB HBb
  obtain ⟨sc, hsc⟩ : ∃ s, decide ((cl : Int) = 0) = s := ⟨_, rfl⟩
  have hsc2 : ((cl : Int) == 0) = sc := by rw [← hsc]; rfl
  have hsc3 : decide (cl = 0) = sc := by rw [← hsc]; exact decide_eq_decide.2 (by omega)
  have hsc4 : (cl == 0) = sc := by rw [← hsc3]; rfl
  have HSC := hid (show (corners xs).isEmpty = sc by rw [HCS.out, empty_len HCL.out, hsc])
  go_wp2_with fail
  refine (implSmooth_n _ _ n sc xs _ R.out DX.out.ok HN.out HSC.out).mono ?_
  rintro e w9 ⟨rfl, hb⟩
  replace R := hid (R.out.below hb)
  replace BL := hid (below_trans BL.out hb)
  replace IC := hid (IC.out.below hb)
  replace RM := hid (RM.out.below hb)
  replace RI := hid (RI.out.below hb)
  clear hb
  go_wp2_with fail
  refine (ValidOutline_n _ _ n xs _ R.out DX.out.ok HN.out).mono ?_
  rintro e w9 ⟨rfl, hb⟩
  replace R := hid (R.out.below hb)
  replace BL := hid (below_trans BL.out hb)
  replace IC := hid (IC.out.below hb)
  replace RM := hid (RM.out.below hb)
  replace RI := hid (RI.out.below hb)
  clear hb
  clear hsc hsc2 hsc3 hsc4 HSC
  go_wp2_with fail
  rename World => w1
  go_loopw [17] (fun i wr => ∃ k : Nat, k ≤ n ∧ i = .int .i64 (k : Int) ∧ Below w1.heap.size w1 wr) (fun i _ => n - (intOf i).toNat)
  case atStart => exact ⟨0, Nat.zero_le _, rfl, Below.refl _ _⟩
  case round =>
    obtain ⟨k, hk, rfl, hbel⟩ := hrel
    by_cases hkl : k < n
    · as_aux_lemma =>
        obtain ⟨x, hx⟩ : ∃ x, xs[k]? = some x := ⟨_, List.getElem?_eq_getElem (by rw [HN.out]; exact hkl)⟩
        obtain ⟨j, hj0⟩ : ∃ j, nxK n k = j := ⟨_, rfl⟩
        have hj : j < n := by rw [← hj0]; exact nxK_lt (by omega)
        obtain ⟨y, hy⟩ : ∃ y, xs[j]? = some y := ⟨_, List.getElem?_eq_getElem (by rw [HN.out]; exact hj)⟩
        have hy2 : xs[nxK xs.length k]? = some y := by rw [HN.out, hj0]; exact hy
        obtain ⟨e1, e2⟩ := DX.out.ok.chain k x y hx hy2
        have HXO := hid (DX.out.ok.arcs x (List.mem_of_getElem? hx))
        have HYO := hid (DX.out.ok.arcs y (List.mem_of_getElem? hy))
        obtain ⟨sv, hsv⟩ : ∃ s, smB x y = s := ⟨_, rfl⟩
        obtain ⟨r, hr⟩ : ∃ r, radN x = r := ⟨_, rfl⟩
        have HE1 := hid e1
        have HE2 := hid e2
        have HSV := hid hsv
        have HRX := hid hr
        have HRM := hid ((rad_mov pp qq x).trans hr)
        have HRI := hid ((rad_mir (DX.out.ok.arcs x (List.mem_of_getElem? hx))).trans hr)
        have HHAS := hid (show cs.contains (k : Int) = !sv by rw [← HCS.out]; exact corn_has (by rw [HN.out]; exact hkl) ((smAt_of hx hy2).trans hsv))
        have HXK := hid hx
        have hje : ((k : Int) + 1).tmod (n : Int) = (j : Int) := by rw [← hj0]; exact nxK_mod n k
        have RR := hid (R.out.below hbel)
        have MM := hid (RM.out.below hbel)
        have II := hid (RI.out.below hbel)
        have CC := hid (IC.out.below hbel)
        have BB := hid hbel
        obtain ⟨hly, y0, y1, y2, y3, y4, y5⟩ := ArcAt.rows RR.out hy
        have i0 : (0 : Int) ≤ (j : Int) := by omega
        have i1 : (j : Int) < n := by omega
        have i2 : ¬ (n : Int) = 0 := by omega
        have i3 : ¬ n = 0 := by omega
        have vk : IntKind.i64.wrap ((k : Int) + 1) = (k : Int) + 1 := IntWalk.i64_in _ (by omega)
        have q0 : (0 : Int) ≤ (k : Int) := by omega
        have q1 : (k : Int) < n := by omega
        clear hx hy hy2 e1 e2 hsv hr hj0 hbel
        go_upto_region 16 with fail
        clear y0 y1 y2 y3 y4 y5 hly hje vk i0 i1 i2 i3
        have hyn := ArcAt.new wr y 88
        have hbn := below_alloc wr (.cells #[.int .i64 y.cx, .int .i64 y.cy, .int .i64 y.fx, .int .i64 y.fy, .int .i64 y.tx, .int .i64 y.ty] 88)
        obtain ⟨W, hW⟩ : ∃ W, W = wr.alloc (.cells #[.int .i64 y.cx, .int .i64 y.cy, .int .i64 y.fx, .int .i64 y.fy, .int .i64 y.tx, .int .i64 y.ty] 88) := ⟨_, rfl⟩
        rw [← hW]
        rw [← hW] at hyn hbn
        obtain ⟨nb, hnb⟩ : ∃ nb, nb = wr.heap.size := ⟨_, rfl⟩
        rw [← hnb]
        rw [← hnb] at hyn
        replace RR := hid (RR.out.below hbn)
        replace MM := hid (MM.out.below hbn)
        replace II := hid (II.out.below hbn)
        replace CC := hid (CC.out.below hbn)
        replace BB := hid (below_trans BB.out hbn)
        have YY := hid hyn
        clear hyn hbn hW hnb
        have HS : ∀ wb, Below W.heap.size W wb → ((fun w' => (True ∧ Below W.heap.size W w') ∧ w'.cell? ⟨g, k * 6, none⟩ = some (.int .i64 x.cx) ∧ w'.cell? ⟨g, k * 6 + 1, none⟩ = some (.int .i64 x.cy) ∧ w'.cell? ⟨g, k * 6 + 2, none⟩ = some (.int .i64 x.fx) ∧ w'.cell? ⟨g, k * 6 + 3, none⟩ = some (.int .i64 x.fy) ∧ w'.cell? ⟨g, k * 6 + 4, none⟩ = some (.int .i64 x.tx) ∧ w'.cell? ⟨g, k * 6 + 5, none⟩ = some (.int .i64 x.ty) ∧ w'.cell? ⟨nb, 0, none⟩ = some (.int .i64 y.cx) ∧ w'.cell? ⟨nb, 1, none⟩ = some (.int .i64 y.cy) ∧ w'.cell? ⟨nb, 2, none⟩ = some (.int .i64 y.fx) ∧ w'.cell? ⟨nb, 3, none⟩ = some (.int .i64 y.fy) ∧ w'.cell? ⟨nb, 4, none⟩ = some (.int .i64 y.tx) ∧ w'.cell? ⟨nb, 5, none⟩ = some (.int .i64 y.ty))) wb := fun wb hb => by
          obtain ⟨-, h0, h1, h2, h3, h4, h5⟩ := ArcAt.rows (RR.out.below hb) HXK.out
          obtain ⟨-, k0, k1, k2, k3, k4, k5⟩ := YY.out.below hb
          exact ⟨⟨trivial, hb⟩, h0, h1, h2, h3, h4, h5, k0, k1, k2, k3, k4, k5⟩
        refine wp_region_held_drew (S := (fun w' => (True ∧ Below W.heap.size W w') ∧ w'.cell? ⟨g, k * 6, none⟩ = some (.int .i64 x.cx) ∧ w'.cell? ⟨g, k * 6 + 1, none⟩ = some (.int .i64 x.cy) ∧ w'.cell? ⟨g, k * 6 + 2, none⟩ = some (.int .i64 x.fx) ∧ w'.cell? ⟨g, k * 6 + 3, none⟩ = some (.int .i64 x.fy) ∧ w'.cell? ⟨g, k * 6 + 4, none⟩ = some (.int .i64 x.tx) ∧ w'.cell? ⟨g, k * 6 + 5, none⟩ = some (.int .i64 x.ty) ∧ w'.cell? ⟨nb, 0, none⟩ = some (.int .i64 y.cx) ∧ w'.cell? ⟨nb, 1, none⟩ = some (.int .i64 y.cy) ∧ w'.cell? ⟨nb, 2, none⟩ = some (.int .i64 y.fx) ∧ w'.cell? ⟨nb, 3, none⟩ = some (.int .i64 y.fy) ∧ w'.cell? ⟨nb, 4, none⟩ = some (.int .i64 y.tx) ∧ w'.cell? ⟨nb, 5, none⟩ = some (.int .i64 y.ty))) (by kernel_rfl) (HS _ (Below.refl _ _).drew) (fun hHeld => ?_)
        refine wpAnyH_take (i := 0) (oi := ⟨some 157, _, _, _, _, _⟩) (v := ?_) rfl (by kernel_rfl) (by kernel_rfl) (by kernel_rfl) (fun _ _ _ h => h) (Or.inl ⟨by rfl, ?_⟩) (by assumption) ?_
        rotate_left
        · (intro w hSw; (try dsimp only at hSw); go_simp; try with_reducible rfl)
        try simp only [Act.put, List.setIfInBounds_toArray, List.set_cons_zero, List.set_cons_succ]
        refine wpAnyH_take (i := 1) (oi := ⟨some 158, _, _, _, _, _⟩) (v := ?_) rfl (by kernel_rfl) (by kernel_rfl) (by kernel_rfl) (fun _ _ _ h => h) (Or.inl ⟨by rfl, ?_⟩) (by assumption) ?_
        rotate_left
        · (intro w hSw; (try dsimp only at hSw); go_simp; try with_reducible rfl)
        try simp only [Act.put, List.setIfInBounds_toArray, List.set_cons_zero, List.set_cons_succ]
        refine wpAnyH_take (i := 2) (oi := ⟨some 159, _, _, _, _, _⟩) (v := ?_) rfl (by kernel_rfl) (by kernel_rfl) (by kernel_rfl) (fun _ _ _ h => h) (Or.inl ⟨by rfl, ?_⟩) (by assumption) ?_
        rotate_left
        · (intro w hSw; (try dsimp only at hSw); go_simp; try with_reducible rfl)
        try simp only [Act.put, List.setIfInBounds_toArray, List.set_cons_zero, List.set_cons_succ]
        refine wpAnyH_take (i := 3) (oi := ⟨some 160, _, _, _, _, _⟩) (v := ?_) rfl (by kernel_rfl) (by kernel_rfl) (by kernel_rfl) (fun _ _ _ h => h) (Or.inl ⟨by rfl, ?_⟩) (by assumption) ?_
        rotate_left
        · (intro w hSw; (try dsimp only at hSw); go_simp; try with_reducible rfl)
        try simp only [Act.put, List.setIfInBounds_toArray, List.set_cons_zero, List.set_cons_succ]
        refine wpAnyH_take (i := 4) (oi := ⟨some 161, _, _, _, _, _⟩) (v := ?_) rfl (by kernel_rfl) (by kernel_rfl) (by kernel_rfl) (fun _ _ _ h => h) (Or.inl ⟨by rfl, ?_⟩) (by assumption) ?_
        rotate_left
        · (intro w hSw; (try dsimp only at hSw); go_simp; try with_reducible rfl)
        try simp only [Act.put, List.setIfInBounds_toArray, List.set_cons_zero, List.set_cons_succ]
        refine wpAnyH_ready (rs := [5]) (by kernel_rfl) (by simp) ?_
        refine AllReadyH.cons (o := ⟨some 162, _, _, _, _, _⟩) rfl (fun K hK => ?_) AllReadyH.nil
        go_simp
        go_at_call 57; refine (joint_n x y sv _ HXO.out HYO.out HE1.out HE2.out HSV.out).mono ?_; rintro e w6 ⟨rfl, hb6⟩
        (try go_wp2_with fail)
        refine hK.out _ _ (HS _ (below_trans hHeld.1.2 hb6)) (fun hHeld => ?_)
        clear hK K
        try simp only [Act.put, List.setIfInBounds_toArray, List.set_cons_zero, List.set_cons_succ]
        refine wpAnyH_take (i := 6) (oi := ⟨some 19, _, _, _, _, _⟩) (v := ?_) rfl (by kernel_rfl) (by kernel_rfl) (by kernel_rfl) (fun _ _ _ h => h) (Or.inl ⟨by rfl, ?_⟩) (by assumption) ?_
        rotate_left
        · (intro w hSw; (try dsimp only at hSw); go_simp; try with_reducible rfl)
        try simp only [Act.put, List.setIfInBounds_toArray, List.set_cons_zero, List.set_cons_succ]
        refine wpAnyH_done (by kernel_rfl) ?_ _
        obtain ⟨⟨-, hb⟩, -⟩ := hHeld
        clear HS
        replace RR := hid (RR.out.below hb)
        replace MM := hid (MM.out.below hb)
        replace II := hid (II.out.below hb)
        replace CC := hid (CC.out.below hb)
        replace YY := hid (YY.out.below hb)
        replace BB := hid (below_trans BB.out hb)
        clear hb
        obtain ⟨hlx, x0, x1, x2, x3, x4, x5⟩ := ArcAt.rows RR.out HXK.out
        go_wp2_with fail
        refine (radius_n x r _ HXO.out HRX.out).mono ?_
        rintro e w9 ⟨rfl, hb⟩
        replace RR := hid (RR.out.below hb)
        replace MM := hid (MM.out.below hb)
        replace II := hid (II.out.below hb)
        replace CC := hid (CC.out.below hb)
        replace YY := hid (YY.out.below hb)
        replace BB := hid (below_trans BB.out hb)
        clear hlx x0 x1 x2 x3 x4 x5
        clear hb
        obtain ⟨hlx, x0, x1, x2, x3, x4, x5⟩ := ArcAt.rows MM.out (mov_at HXK.out)
        go_wp2_with fail
        refine (radiusS_n (movA pp qq x) r _ (HMO.out.arcs _ (List.mem_of_getElem? (mov_at HXK.out))) HRM.out).mono ?_
        rintro e w9 ⟨rfl, hb⟩
        replace RR := hid (RR.out.below hb)
        replace MM := hid (MM.out.below hb)
        replace II := hid (II.out.below hb)
        replace CC := hid (CC.out.below hb)
        replace YY := hid (YY.out.below hb)
        replace BB := hid (below_trans BB.out hb)
        clear hlx x0 x1 x2 x3 x4 x5
        clear hb
        obtain ⟨u, hu⟩ : ∃ u, n - 1 - k = u := ⟨_, rfl⟩
        have hu2 : (n : Int) - 1 - (k : Int) = (u : Int) := by omega
        have hu3 : (u : Int) < n := by omega
        have hu4 : (0 : Int) ≤ (u : Int) := by omega
        have HMA := hid (show (mirL xs)[u]? = some (mirA x) by rw [← hu]; exact mir_at HN.out hkl HXK.out)
        obtain ⟨hlx, x0, x1, x2, x3, x4, x5⟩ := ArcAt.rows II.out HMA.out
        have vu1 : IntKind.i64.wrap ((n : Int) - 1) = (n : Int) - 1 := IntWalk.i64_in _ (by omega)
        have vu2 : IntKind.i64.wrap ((n : Int) - 1 - (k : Int)) = (u : Int) := (IntWalk.i64_in _ (by omega)).trans hu2
        clear hu hu2
        go_wp2_with fail
        refine (radiusS_n (mirA x) r _ (HMI.out.arcs _ (List.mem_of_getElem? HMA.out)) HRI.out).mono ?_
        rintro e w9 ⟨rfl, hb⟩
        replace RR := hid (RR.out.below hb)
        replace MM := hid (MM.out.below hb)
        replace II := hid (II.out.below hb)
        replace CC := hid (CC.out.below hb)
        replace YY := hid (YY.out.below hb)
        replace BB := hid (below_trans BB.out hb)
        clear hlx vu1 vu2 hu3 hu4 HMA x0 x1 x2 x3 x4 x5
        clear hb
        obtain ⟨hlx, x0, x1, x2, x3, x4, x5⟩ := ArcAt.rows RR.out HXK.out
        obtain ⟨hly, y0, y1, y2, y3, y4, y5⟩ := YY.out
        obtain ⟨h1, h2, h3, h4, h5, h6⟩ := HXO.out.bd
        obtain ⟨g1', g2', g3, g4, g5, g6⟩ := HYO.out.bd
        unfold InC at h1 h2 h3 h4 h5 h6 g1' g2' g3 g4 g5 g6
        have v1 : IntKind.i64.wrap (x.cx - x.tx) = x.cx - x.tx := IntWalk.i64_in _ (by omega)
        have v2 : IntKind.i64.wrap (y.cy - x.ty) = y.cy - x.ty := IntWalk.i64_in _ (by omega)
        have v3 : IntKind.i64.wrap (x.cy - x.ty) = x.cy - x.ty := IntWalk.i64_in _ (by omega)
        have v4 : IntKind.i64.wrap (y.cx - x.tx) = y.cx - x.tx := IntWalk.i64_in _ (by omega)
        have p5 := mulB (a := (x.cx - x.tx)) (b := (y.cy - x.ty)) (M := 40000) (by omega) (by omega)
        have v5 : IntKind.i64.wrap ((x.cx - x.tx) * (y.cy - x.ty)) = (x.cx - x.tx) * (y.cy - x.ty) := IntWalk.i64_in _ (by omega)
        have p6 := mulB (a := (x.cy - x.ty)) (b := (y.cx - x.tx)) (M := 40000) (by omega) (by omega)
        have v6 : IntKind.i64.wrap ((x.cy - x.ty) * (y.cx - x.tx)) = (x.cy - x.ty) * (y.cx - x.tx) := IntWalk.i64_in _ (by omega)
        have v7 : IntKind.i64.wrap ((x.cx - x.tx) * (y.cy - x.ty) - (x.cy - x.ty) * (y.cx - x.tx)) = (x.cx - x.tx) * (y.cy - x.ty) - (x.cy - x.ty) * (y.cx - x.tx) := IntWalk.i64_in _ (by omega)
        clear h1 h2 h3 h4 h5 h6 g1' g2' g3 g4 g5 g6 p5 p6
        go_upto_region 20 with fail
        go_quiet (fail)
        clear v1 v2 v3 v4 v5 v6 v7 x0 x1 x2 x3 x4 x5 y0 y1 y2 y3 y4 y5 hlx hly
        rename Nat => nq
        have CC2 := hid (CC.out.below (below_drewN _ nq))
        have BB2 := hid (below_trans BB.out (below_drewN _ nq))
        go_wp2_with fail
        refine Calls.mono (r8Has_ok A3 c3 cs (k : Int) _ CC2.out (by rw [HCL.out]; omega) cl HCL.out.symm _ HHAS.out) ?_
        rintro e w9 ⟨rfl, rfl⟩
        cases sv
        · have hD := dif_no HSV.out
          unfold difN at hD
          go_wp2_with fail
          go_roundw
          case rel => exact ⟨k + 1, by omega, by go_num, BB2.out⟩
          case measure => simp [intOf]; omega
        · have hD := dif_yes HSV.out
          unfold difN at hD
          go_wp2_with fail
          go_roundw
          case rel => exact ⟨k + 1, by omega, by go_num, BB2.out⟩
          case measure => simp [intOf]; omega
    · have q1 : ¬ (k : Int) < n := by omega
      have RR := hid (R.out.below hbel)
      have MM := hid (RM.out.below hbel)
      have II := hid (RI.out.below hbel)
      have CC := hid (IC.out.below hbel)
      have BB := hid (below_trans BL.out hbel)
      clear hbel R RM RI IC BL hkl hk
      go_wp2_with fail
      refine (specMirror_n _ _ n (mirL xs) xs _ II.out HMI.out ((mirL_len xs).trans HN.out) (mirL_mirL xs)).mono ?_
      rintro e w9 ⟨gb, cb, rfl, hR, hb⟩
      replace RR := hid (RR.out.below hb)
      replace MM := hid (MM.out.below hb)
      replace II := hid (II.out.below hb)
      replace CC := hid (CC.out.below hb)
      replace BB := hid (below_trans BB.out hb)
      have KK := hid hR
      clear hR
      clear hb
      go_wp2_with fail
      refine (specCorners_n _ _ n cl cs (movL pp qq xs) _ MM.out HMO.out ((movL_len pp qq xs).trans HN.out) ((corners_mov pp qq xs).trans HCS.out) HCL.out).mono ?_
      rintro e w9 ⟨Ao, co, rfl, hI, hb⟩
      replace RR := hid (RR.out.below hb)
      replace MM := hid (MM.out.below hb)
      replace II := hid (II.out.below hb)
      replace CC := hid (CC.out.below hb)
      replace KK := hid (KK.out.below hb)
      replace BB := hid (below_trans BB.out hb)
      have OO := hid hI
      clear hI
      clear hb
      obtain ⟨ct, hct⟩ : ∃ l, corners (mirL xs) = l := ⟨_, rfl⟩
      have HCT := hid hct
      have HTL := hid (show ct.length = cl by rw [← hct, corners_mir DX.out.ok, HCS.out, HCL.out])
      clear hct
      go_wp2_with fail
      refine (specCorners_n _ _ n cl ct (mirL xs) _ II.out HMI.out ((mirL_len xs).trans HN.out) HCT.out HTL.out).mono ?_
      rintro e w9 ⟨At, ct2, rfl, -, hb⟩
      replace RR := hid (RR.out.below hb)
      replace MM := hid (MM.out.below hb)
      replace II := hid (II.out.below hb)
      replace CC := hid (CC.out.below hb)
      replace KK := hid (KK.out.below hb)
      replace OO := hid (OO.out.below hb)
      replace BB := hid (below_trans BB.out hb)
      clear hb
      go_wp2_with fail
      refine (specArea_n _ _ n ar (movL pp qq xs) _ MM.out HMO.out ((movL_len pp qq xs).trans HN.out) ((area_mov DX.out.ok).trans HAR.out)).mono ?_
      rintro e w9 ⟨rfl, hb⟩
      replace RR := hid (RR.out.below hb)
      replace MM := hid (MM.out.below hb)
      replace II := hid (II.out.below hb)
      replace CC := hid (CC.out.below hb)
      replace KK := hid (KK.out.below hb)
      replace OO := hid (OO.out.below hb)
      replace BB := hid (below_trans BB.out hb)
      clear hb
      go_wp2_with fail
      refine (specArea_n _ _ n ar (mirL xs) _ II.out HMI.out ((mirL_len xs).trans HN.out) ((area_mir xs).trans HAR.out)).mono ?_
      rintro e w9 ⟨rfl, hb⟩
      replace RR := hid (RR.out.below hb)
      replace MM := hid (MM.out.below hb)
      replace II := hid (II.out.below hb)
      replace CC := hid (CC.out.below hb)
      replace KK := hid (KK.out.below hb)
      replace OO := hid (OO.out.below hb)
      replace BB := hid (below_trans BB.out hb)
      clear hb
      go_wp2_with fail
      refine (same_n _ _ _ _ cl cs _ OO.out CC.out HCL.out (by omega)).mono ?_
      rintro e w9 ⟨rfl, hb⟩
      replace RR := hid (RR.out.below hb)
      replace MM := hid (MM.out.below hb)
      replace II := hid (II.out.below hb)
      replace CC := hid (CC.out.below hb)
      replace KK := hid (KK.out.below hb)
      replace OO := hid (OO.out.below hb)
      replace BB := hid (below_trans BB.out hb)
      clear MM II CC OO HMO HMI HAR HCT HTL
      clear hb
      go_wp2_with fail
      rename World => w2
      go_loopw [37] (fun i wr => ∃ k : Nat, k ≤ n ∧ i = .int .i64 (k : Int) ∧ Below w2.heap.size w2 wr) (fun i _ => n - (intOf i).toNat)
      case atStart => exact ⟨0, Nat.zero_le _, rfl, Below.refl _ _⟩
      case round =>
        obtain ⟨k, hk, rfl, hbel⟩ := hrel
        by_cases hkl : k < n
        · as_aux_lemma =>
            obtain ⟨x, hx⟩ : ∃ x, xs[k]? = some x := ⟨_, List.getElem?_eq_getElem (by rw [HN.out]; exact hkl)⟩
            obtain ⟨hlx, x0, x1, x2, x3, x4, x5⟩ := ArcAt.rows (RR.out.below hbel) hx
            obtain ⟨hly, y0, y1, y2, y3, y4, y5⟩ := ArcAt.rows (KK.out.below hbel) hx
            have HBE := hid hbel
            have q0 : (0 : Int) ≤ (k : Int) := by omega
            have q1 : (k : Int) < n := by omega
            clear hx hbel
            go_wp2_with fail
            go_quiet (fail)
            rename Nat => nq
            go_wp2_with fail
            go_roundw
            case rel => exact ⟨k + 1, by omega, by go_num, below_drewN' HBE.out nq⟩
            case measure => simp [intOf]; omega
        · have q1 : ¬ (k : Int) < n := by omega
          replace RR := hid (RR.out.below hbel)
          replace BB := hid (below_trans BB.out hbel)
          clear hbel KK hkl hk
          go_wp2_with fail
          refine (Box_n _ _ n xs _ RR.out DX.out.ok HN.out).mono ?_
          rintro e w9 ⟨gx, rfl, b0, b1, b2, b3, hI, hin, hb⟩
          replace RR := hid (RR.out.below hb)
          replace BB := hid (below_trans BB.out hb)
          have XX := hid hI
          have HIN := hid hin
          clear hI hin
          clear hb
          go_wp2_with fail
          refine (Sharp_n _ _ n xs _ RR.out DX.out.ok HN.out).mono ?_
          rintro e w9 ⟨sh, y, rfl, hy, hmin, hb⟩
          replace RR := hid (RR.out.below hb)
          replace XX := hid (XX.out.below hb)
          replace BB := hid (below_trans BB.out hb)
          have HY := hid hy
          have HMIN := hid hmin
          have HYO := hid (DX.out.ok.arcs y (List.mem_of_getElem? hy))
          have hshl : sh < n := by rw [← HN.out]; exact (List.getElem?_eq_some_iff.1 hy).1
          clear hy hmin
          clear hb
          obtain ⟨le, hle⟩ : ∃ r, radN y = r := ⟨_, rfl⟩
          have HLE := hid hle
          have s0 : (0 : Int) ≤ (sh : Int) := by omega
          have s1 : (sh : Int) < n := by omega
          have s2 : ¬ (sh : Int) < 0 := by omega
          have s3 : ¬ (n : Int) ≤ (sh : Int) := by omega
          clear hle
          obtain ⟨hlx, x0, x1, x2, x3, x4, x5⟩ := ArcAt.rows RR.out HY.out
          go_wp2_with fail
          refine (radiusS_n y le _ HYO.out HLE.out).mono ?_
          rintro e w9 ⟨rfl, hb⟩
          replace RR := hid (RR.out.below hb)
          replace XX := hid (XX.out.below hb)
          replace BB := hid (below_trans BB.out hb)
          clear hlx s0 s1 s2 s3 x0 x1 x2 x3 x4 x5
          clear hb
          go_wp2_with fail
          rename World => w3
          go_loopw [44] (fun i wr => ∃ k : Nat, k ≤ n ∧ i = .int .i64 (k : Int) ∧ Below w3.heap.size w3 wr) (fun i _ => n - (intOf i).toNat)
          case atStart => exact ⟨0, Nat.zero_le _, rfl, Below.refl _ _⟩
          case round =>
            obtain ⟨k, hk, rfl, hbel⟩ := hrel
            by_cases hkl : k < n
            · as_aux_lemma =>
                obtain ⟨x, hx⟩ : ∃ x, xs[k]? = some x := ⟨_, List.getElem?_eq_getElem (by rw [HN.out]; exact hkl)⟩
                have HXK := hid hx
                have HXO := hid (DX.out.ok.arcs x (List.mem_of_getElem? hx))
                obtain ⟨r, hr⟩ : ∃ r, radN x = r := ⟨_, rfl⟩
                have HRX := hid hr
                have hmn := HMIN.out k x hx
                rw [HLE.out, hr] at hmn
                obtain ⟨t0, t1, t2, t3⟩ := HIN.out k x hx
                have a0 : ¬ r < le := by omega
                have a1 : ¬ x.fx < b0 := by omega
                have a2 : ¬ x.fy < b1 := by omega
                have a3 : ¬ b2 < x.fx := by omega
                have a4 : ¬ b3 < x.fy := by omega
                have R4 := hid (RR.out.below hbel)
                have X4 := hid (XX.out.below hbel)
                have B4 := hid hbel
                have q0 : (0 : Int) ≤ (k : Int) := by omega
                have q1 : (k : Int) < n := by omega
                obtain ⟨hlx, x0, x1, x2, x3, x4, x5⟩ := ArcAt.rows R4.out hx
                clear hx hbel hr hmn t0 t1 t2 t3
                go_wp2_with fail
                refine (radiusS_n x r _ HXO.out HRX.out).mono ?_
                rintro e w9 ⟨rfl, hb⟩
                clear hlx x0 x1 x2 x3 x4 x5
                replace R4 := hid (R4.out.below hb)
                replace X4 := hid (X4.out.below hb)
                replace B4 := hid (below_trans B4.out hb)
                clear hb
                obtain ⟨hlx, x0, x1, x2, x3, x4, x5⟩ := ArcAt.rows R4.out HXK.out
                go_upto_region 45 with fail
                clear hlx x0 x1 x2 x3 x4 x5
                have X5 := hid (X4.out.below (below_alloc w9 (.cells #[.int .i64 x.fx, .int .i64 x.fy] 86)))
                obtain ⟨gb', go', hae, hgl, hgc⟩ := X5.out (by simp)
                injection hae with hae
                injection hae with ha1 ha2
                subst ha1 ha2
                have z0 : (w9.alloc (.cells #[.int .i64 x.fx, .int .i64 x.fy] 86)).cell? ⟨gx, 0, none⟩ = some (.int .i64 b0) := hgc 0 _ rfl
                have z1 : (w9.alloc (.cells #[.int .i64 x.fx, .int .i64 x.fy] 86)).cell? ⟨gx, 1, none⟩ = some (.int .i64 b1) := hgc 1 _ rfl
                have z2 : (w9.alloc (.cells #[.int .i64 x.fx, .int .i64 x.fy] 86)).cell? ⟨gx, 2, none⟩ = some (.int .i64 b2) := hgc 2 _ rfl
                have z3 : (w9.alloc (.cells #[.int .i64 x.fx, .int .i64 x.fy] 86)).cell? ⟨gx, 3, none⟩ = some (.int .i64 b3) := hgc 3 _ rfl
                have hp := HasC.new w9 [.int .i64 x.fx, .int .i64 x.fy] 86
                have y0 := hp.2 0 _ rfl
                have y1 := hp.2 1 _ rfl
                replace B4 := hid (below_trans B4.out (below_alloc w9 (.cells #[.int .i64 x.fx, .int .i64 x.fy] 86)))
                clear hgc hp X4 X5 hgl
                obtain ⟨W, hW⟩ : ∃ W, W = w9.alloc (.cells #[.int .i64 x.fx, .int .i64 x.fy] 86) := ⟨_, rfl⟩
                rw [← hW]
                rw [← hW] at z0 z1 z2 z3 y0 y1 B4
                obtain ⟨pb, hpb⟩ : ∃ pb, pb = w9.heap.size := ⟨_, rfl⟩
                rw [← hpb]
                rw [← hpb] at y0 y1
                clear hW hpb
                go_quiet (fail)
                rename Nat => nq
                go_wp2_with fail
                go_roundw
                case rel => exact ⟨k + 1, by omega, by go_num, below_drewN' B4.out nq⟩
                case measure => simp [intOf]; omega
            · have q1 : ¬ (k : Int) < n := by omega
              replace BB := hid (below_trans BB.out hbel)
              clear hbel
              go_wp2_with fail
              go_ret
              exact ⟨rfl, BB.out⟩
end Go.Proofs.Ytdbjbkdcmhekfaa
