/- FnBows: the heaviest part, inertia, added masses, moved parts. -/
import Derived.Test.YtmfadjdpbobfhaaDoorBowA
namespace Go.Proofs.YtmfadjdpbobfhaaDoor
open Go.RowKit
set_option linter.unusedVariables false


set_option maxHeartbeats 1600000 in
set_option maxRecDepth 100000 in
theorem HeaviestPart_ok (A : Option Addr) (c n : Nat) (xs : List DPart) (w : World) (hA : RowsAt w 3 A (xs.map DPart.cells)) (hX : DrwB xs) (hn : xs.length = n) :
    Calls Tryd.prog 37 #[.slice A n c] w fun e w' => (∃ b : Nat, e = .returned (.tuple #[.int .i64 (b : Int), .int .i64 0]) ∧ ∃ y : DPart, xs[b]? = some y ∧ ∀ (j : Nat) (x : DPart), xs[j]? = some x → x.fMass ≤ y.fMass) ∧ Below w.heap.size w w' := by
  have HA := hid hA
  have HX := hid hX
  have HN := hid hn
  obtain ⟨n1, n6⟩ := drwB_n hX hn
  clear hA hX hn
  go_enter Tryd.func37, Tryd.ntmps37
  go_wp2_with fail
  refine (ValidBow_ok A c n xs _ HA.out HX.out HN.out).mono ?_
  rintro e w1 ⟨rfl, hb1⟩
  have HB1 := hid hb1
  replace HA := hid (HA.out.below hb1)
  clear hb1
  go_wp2_with fail
  go_loopw [4, 12] (fun v i wr => ∃ (k b : Nat) (y : DPart), k ≤ n ∧ i = .int .i64 (k : Int) ∧ v = .int .i64 (b : Int) ∧ Below w1.heap.size w1 wr ∧ xs[b]? = some y ∧ ∀ (j : Nat) (x : DPart), j < k → xs[j]? = some x → x.fMass ≤ y.fMass) (fun _ i _ => n - (intOf i).toNat)
  case atStart => exact ⟨0, 0, _, Nat.zero_le _, rfl, rfl, Below.refl _ _, List.getElem?_eq_getElem (by rw [HN.out]; omega), fun j _ h => absurd h (by omega)⟩
  case round =>
    obtain ⟨k, b, y, hk, rfl, rfl, hbel, hy, hmin⟩ := hrel
    have HB := hid hbel
    have HY := hid hy
    have HM := hid hmin
    have hbl : b < n := by rw [← HN.out]; exact (List.getElem?_eq_some_iff.1 hy).1
    clear hbel hmin hy
    by_cases hkl : k < n
    · obtain ⟨x, hx⟩ : ∃ x, xs[k]? = some x := ⟨_, List.getElem?_eq_getElem (by rw [HN.out]; exact hkl)⟩
      have HXK := hid hx
      have HXS := hid (HX.out.one x (List.mem_of_getElem? hx))
      obtain ⟨ab, ao, rfl, hAt⟩ := PartAt.of_rows (HA.out.below HB.out) hx
      obtain ⟨hl0, x0, x1, x2⟩ := hAt
      have q0 : (0 : Int) ≤ (k : Int) := by omega
      have q1 : (k : Int) < n := by omega
      clear hx
      go_upto_region 7 with fail
      clear x0 x1 x2
      have hyn := PartAt.new wr x 39
      have hbn := below_alloc wr (.cells #[.string x.fId, .int .i64 x.fAt, .int .i64 x.fMass] 39)
      obtain ⟨W, hW⟩ : ∃ W, W = wr.alloc (.cells #[.string x.fId, .int .i64 x.fAt, .int .i64 x.fMass] 39) := ⟨_, rfl⟩
      rw [← hW]
      rw [← hW] at hyn hbn
      obtain ⟨nb, hnb⟩ : ∃ nb, nb = wr.heap.size := ⟨_, rfl⟩
      rw [← hnb]
      rw [← hnb] at hyn
      have BB := hid (below_trans HB.out hbn)
      have HA1 := hid ((HA.out.below HB.out).below hbn)
      obtain ⟨hly, z0, z1, z2⟩ := hyn
      obtain ⟨ab2, ao2, hae, hAt⟩ := PartAt.of_rows HA1.out HY.out
      injection hae with hae
      injection hae with ha1 ha2
      subst ha1 ha2
      obtain ⟨hl1, y0, y1, y2⟩ := hAt
      have i0 : (0 : Int) ≤ (b : Int) := by omega
      have i1 : (b : Int) < n := by omega
      clear hbn hW hnb y0 y1 z0 z1
      go_quiet (fail)
      rename Nat => nq
      clear y2 z2
      by_cases hlt : y.fMass < x.fMass
      · have HNW := hid (show ∀ (j : Nat) (z : DPart), j < k + 1 → xs[j]? = some z → z.fMass ≤ x.fMass from fun j z hj hz => by
          rcases Nat.lt_or_ge j k with h | h
          · have h1 := HM.out j z h hz
            omega
          · have e : j = k := by omega
            subst e
            rw [HXK.out] at hz
            injection hz with hz
            subst hz
            exact Int.le_refl _)
        go_wp2_with fail
        go_roundw
        case rel => exact ⟨k + 1, k, x, by omega, by go_num, rfl, below_drewN' BB.out nq, HXK.out, HNW.out⟩
        case measure => simp [intOf]; omega
      · have HNW := hid (show ∀ (j : Nat) (z : DPart), j < k + 1 → xs[j]? = some z → z.fMass ≤ y.fMass from fun j z hj hz => by
          rcases Nat.lt_or_ge j k with h | h
          · exact HM.out j z h hz
          · have e : j = k := by omega
            subst e
            rw [HXK.out] at hz
            injection hz with hz
            subst hz
            omega)
        go_wp2_with fail
        go_roundw
        case rel => exact ⟨k + 1, b, y, by omega, by go_num, rfl, below_drewN' BB.out nq, HY.out, HNW.out⟩
        case measure => simp [intOf]; omega
    · have q1 : ¬ (k : Int) < n := by omega
      go_wp2_with fail
      go_ret2
      exact ⟨⟨b, rfl, y, HY.out, fun j x hx => HM.out j x (by have := (List.getElem?_eq_some_iff.1 hx).1; rw [HN.out] at this; omega) hx⟩, below_trans HB1.out HB.out⟩

set_option maxHeartbeats 1600000 in
set_option maxRecDepth 100000 in
theorem InertiaOf_ok (A : Option Addr) (c n : Nat) (xs : List DPart) (w : World) (hA : RowsAt w 3 A (xs.map DPart.cells)) (hX : DrwB xs) (hn : xs.length = n) (a s : Int) (ha : 0 ≤ a ∧ a ≤ 800) (hs : sumB (inerP a) xs n = s) :
    Calls Tryd.prog 46 #[.slice A n c, .int .i64 a] w fun e w' => e = .returned (.tuple #[.int .i64 (s / 1000), .int .i64 0]) ∧ Below w.heap.size w w' := by
  have HA := hid hA
  have HX := hid hX
  have HN := hid hn
  obtain ⟨n1, n6⟩ := drwB_n hX hn
  clear hA hX hn
  have HS := hid hs
  have sb := iner_bd HX.out ha n (by rw [HN.out]; exact Nat.le_refl _)
  rw [hs] at sb
  obtain ⟨s0, s1⟩ := sb
  obtain ⟨a0, a1⟩ := ha
  clear hs
  have c1 : inB a 0 8000 = true := inB_iff.2 (by omega)
  go_enter Tryd.func46, Tryd.ntmps46
  go_wp2_with fail
  refine (ValidBow_ok A c n xs _ HA.out HX.out HN.out).mono ?_
  rintro e w1 ⟨rfl, hb1⟩
  have HB1 := hid hb1
  replace HA := hid (HA.out.below hb1)
  clear hb1
  go_wp2_with fail
  refine (isPlace_ok a _).mono ?_
  rintro e w2 ⟨rfl, rfl⟩
  rw [c1]
  go_wp2_with fail
  go_loopw [6, 17] (fun m i wr => ∃ k : Nat, k ≤ n ∧ i = .int .i64 (k : Int) ∧ m = .int .i64 (sumB (inerP a) xs k) ∧ Below w1.heap.size w1 wr) (fun _ i _ => n - (intOf i).toNat)
  case atStart => exact ⟨0, Nat.zero_le _, rfl, rfl, Below.refl _ _⟩
  case round =>
    obtain ⟨k, hk, rfl, rfl, hbel⟩ := hrel
    have HB := hid hbel
    clear hbel
    by_cases hkl : k < n
    · obtain ⟨x, hx⟩ : ∃ x, xs[k]? = some x := ⟨_, List.getElem?_eq_getElem (by rw [HN.out]; exact hkl)⟩
      have HXK := hid hx
      have HXS := hid (HX.out.one x (List.mem_of_getElem? hx))
      obtain ⟨ab, ao, rfl, hAt⟩ := PartAt.of_rows (HA.out.below HB.out) hx
      obtain ⟨hl0, x0, x1, x2⟩ := hAt
      have q0 : (0 : Int) ≤ (k : Int) := by omega
      have q1 : (k : Int) < n := by omega
      clear hx
      have HE1 := hid (show sumB (inerP a) xs (k + 1) = sumB (inerP a) xs k + x.fMass * (x.fAt - a) * (x.fAt - a) from sumB_next (f := inerP a) HXK.out)
      have b1 := iner_bd HX.out ⟨a0, a1⟩ k (by rw [HN.out]; exact hk)
      have b3 := iner_one HXS.out ⟨a0, a1⟩
      unfold inerP at b3
      obtain ⟨-, -, p0, p1, m0, m1⟩ := HXS.out
      have b5 : -(32000000 : Int) ≤ x.fMass * (x.fAt - a) ∧ x.fMass * (x.fAt - a) ≤ 32000000 := by
        rcases Int.lt_or_le (x.fAt - a) 0 with h | h
        · have h1 := mulP (a := x.fMass) (b := -(x.fAt - a)) (M := 40000) (N := 800) (by omega) (by omega)
          rw [Int.mul_neg] at h1
          omega
        · have h1 := mulP (a := x.fMass) (b := x.fAt - a) (M := 40000) (N := 800) (by omega) (by omega)
          omega
      obtain ⟨s2, hs2⟩ : ∃ s, sumB (inerP a) xs k = s := ⟨_, rfl⟩
      rw [hs2] at b1 HE1
      rw [hs2]
      have v1 : IntKind.i64.wrap (x.fAt - a) = x.fAt - a := IntWalk.i64_in _ (by omega)
      have v2 : IntKind.i64.wrap (x.fMass * (x.fAt - a)) = x.fMass * (x.fAt - a) := IntWalk.i64_in _ (by omega)
      have v3 : IntKind.i64.wrap (x.fMass * (x.fAt - a) * (x.fAt - a)) = x.fMass * (x.fAt - a) * (x.fAt - a) := IntWalk.i64_in _ (by omega)
      have v4 : IntKind.i64.wrap (s2 + x.fMass * (x.fAt - a) * (x.fAt - a)) = s2 + x.fMass * (x.fAt - a) * (x.fAt - a) := IntWalk.i64_in _ (by omega)
      clear hs2 b1 b3 b5 p0 p1 m0 m1
      go_wp2_with fail
      go_roundw
      case rel => exact ⟨k + 1, by omega, by go_num, by rw [HE1.out], below_trans HB.out (below_alloc _ _)⟩
      case measure => simp [intOf]; omega
    · have hk2 : k = n := by omega
      have q1 : ¬ (k : Int) < n := by omega
      rw [show sumB (inerP a) xs k = s by rw [hk2]; exact HS.out]
      clear hk2
      go_wp2_with fail
      go_ret2
      exact ⟨by first | rfl | (congr 4; omega), below_trans HB1.out HB.out⟩

/-- AddedMass answers -/
def AddQ (M P a g n d : Int) : Prop := (d = 0 ∧ (0 ≤ n ∧ n ≤ 100000) ∧ g * (M + n) ≤ P + n * a ∧ (0 < n → P + (n - 1) * a < g * (M + n - 1))) ∨ (d = 3 ∧ a ≤ g ∧ P < g * M) ∨ d = 5
set_option maxHeartbeats 1600000 in
set_option maxRecDepth 100000 in
theorem AddedMass_ok (A : Option Addr) (c n : Nat) (xs : List DPart) (w : World) (hA : RowsAt w 3 A (xs.map DPart.cells)) (hX : DrwB xs) (hn : xs.length = n) (M P a g : Int) (hM : massL xs = M) (hP : momL xs = P) (ha : 0 ≤ a ∧ a ≤ 800) (hg : 0 ≤ g ∧ g ≤ 800) :
    Calls Tryd.prog 42 #[.slice A n c, .int .i64 a, .int .i64 g] w fun e w' => (∃ r d : Int, e = .returned (.tuple #[.int .i64 r, .int .i64 d]) ∧ AddQ M P a g r d) ∧ Below w.heap.size w w' := by
  have HA := hid hA
  have HM := hid hM
  have HP := hid hP
  have b1 := mass_bd hX n (by omega)
  have b2 := mom_bd hX n (by omega)
  have b3 := massL_pos hX
  rw [← massL_n hn, hM] at b1
  rw [← momL_n hn, hP] at b2
  rw [hM] at b3
  have b4 := mulP (a := g) (b := M) (M := 800) (N := 240000) (by omega) (by omega)
  obtain ⟨a0, a1⟩ := ha
  obtain ⟨g0, g1⟩ := hg
  have c1 : inB a 0 8000 = true := inB_iff.2 (by omega)
  have c2 : inB g 0 8000 = true := inB_iff.2 (by omega)
  have v1 : IntKind.i64.wrap (g * M) = g * M := IntWalk.i64_in _ (by omega)
  have v2 : IntKind.i64.wrap (g * M - P) = g * M - P := IntWalk.i64_in _ (by omega)
  clear hA hM hP
  go_enter Tryd.func42, Tryd.ntmps42
  go_wp2_with fail
  refine (ValidBow_ok A c n xs _ HA.out hX hn).mono ?_
  rintro e w1 ⟨rfl, hb1⟩
  have HB1 := hid hb1
  replace HA := hid (HA.out.below hb1)
  clear hb1
  go_wp2_with fail
  refine (isPlace_ok a _).mono ?_
  rintro e w2 ⟨rfl, rfl⟩
  rw [c1]
  go_wp2_with fail
  refine (isPlace_ok g _).mono ?_
  rintro e w2 ⟨rfl, rfl⟩
  rw [c2]
  go_wp2_with fail
  refine (weigh_ok A c n xs _ HA.out hX hn M P HM.out HP.out).mono ?_
  rintro e w2 ⟨rfl, hb2⟩
  have HB2 := hid (below_trans HB1.out hb2)
  clear hb2
  by_cases h1 : g * M - P ≤ 0
  · have HQ := hid (show AddQ M P a g 0 0 from .inl ⟨rfl, ⟨by omega, by omega⟩, by rw [Int.zero_mul, Int.add_zero]; omega, fun h => absurd h (by omega)⟩)
    go_wp2_with fail
    go_ret2
    exact ⟨⟨_, _, rfl, HQ.out⟩, HB2.out⟩
  by_cases h2 : a ≤ g
  · have HQ := hid (show AddQ M P a g 0 3 from .inr (.inl ⟨rfl, h2, by omega⟩))
    go_wp2_with fail
    go_ret2
    exact ⟨⟨_, _, rfl, HQ.out⟩, HB2.out⟩
  have v3 : IntKind.i64.wrap (g * M - P + a) = g * M - P + a := IntWalk.i64_in _ (by omega)
  have v4 : IntKind.i64.wrap (g * M - P + a - g) = g * M - P + a - g := IntWalk.i64_in _ (by omega)
  have v5 : IntKind.i64.wrap (g * M - P + a - g - 1) = g * M - P + a - g - 1 := IntWalk.i64_in _ (by omega)
  have v6 : IntKind.i64.wrap (a - g) = a - g := IntWalk.i64_in _ (by omega)
  have e0 : ¬ a - g = 0 := by omega
  have e1 : ¬ a - g = -1 := by omega
  obtain ⟨r, hr⟩ : ∃ r, (g * M - P + a - g - 1) / (a - g) = r := ⟨_, rfl⟩
  have ht : (g * M - P + a - g - 1).tdiv (a - g) = r := by rw [← hr]; exact Int.tdiv_eq_ediv_of_nonneg (by omega)
  have hq := added_ok (mom := P) (mass := M) (a := a) (g := g) (n := r) (by omega) (by omega) hr.symm
  have hr1 : r ≤ g * M - P + a - g - 1 := by rw [← hr]; exact Int.ediv_le_self _ (by omega)
  have v7 : IntKind.i64.wrap r = r := IntWalk.i64_in _ (by omega)
  by_cases h3 : 100000 < r
  · have HQ := hid (show AddQ M P a g 0 5 from .inr (.inr rfl))
    clear hq hr1
    go_wp2_with fail
    go_ret2
    exact ⟨⟨_, _, rfl, HQ.out⟩, HB2.out⟩
  · have HQ := hid (show AddQ M P a g r 0 from .inl ⟨rfl, ⟨by omega, by omega⟩, hq.2.1, fun _ => hq.2.2⟩)
    clear hq hr1
    go_wp2_with fail
    go_ret2
    exact ⟨⟨_, _, rfl, HQ.out⟩, HB2.out⟩

end Go.Proofs.YtmfadjdpbobfhaaDoor
