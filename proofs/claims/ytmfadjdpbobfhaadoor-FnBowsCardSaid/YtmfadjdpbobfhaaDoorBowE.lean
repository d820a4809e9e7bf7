/- FnBows: heights of a stick. -/
import Derived.Test.YtmfadjdpbobfhaaDoorBowD
namespace Go.Proofs.YtmfadjdpbobfhaaDoor
open Go.RowKit
set_option linter.unusedVariables false

theorem mulS {a b : Int} (ha : -200 ≤ a ∧ a ≤ 200) (hb : -200 ≤ b ∧ b ≤ 200) : -40000 ≤ a * b ∧ a * b ≤ 40000 := by
  have h1 : a.natAbs ≤ 200 := by omega
  have h2 : b.natAbs ≤ 200 := by omega
  have h3 : (a * b).natAbs ≤ 200 * 200 := by rw [Int.natAbs_mul]; exact Nat.mul_le_mul h1 h2
  omega
theorem depth_st {hs : List Int} {st : Nat} (h : hs.length = st + 1) (i : Nat) : depthL hs i = hAt hs 0 * (st : Int) + (hAt hs st - hAt hs 0) * (i : Int) - hAt hs i * (st : Int) := by
  unfold depthL
  rw [h, show st + 1 - 1 = st by omega, show (((st + 1 : Nat) : Int) - 1) = (st : Int) by omega]
def bendL (hs : List Int) (u : Nat) : Int := hAt hs u + hAt hs (u + 2) - 2 * hAt hs (u + 1)
theorem heights_n {hs : List Int} {n : Nat} (h : HgtB hs) (hn : hs.length = n) : 3 ≤ n ∧ n ≤ 10 := by
  subst hn
  exact ⟨h.n3, h.n10⟩
/-- the heights' cells -/
theorem hgt_cells {w : World} {A : Option Addr} {hs : List Int} {n : Nat} (hA : IntsAt w A hs) (hn : hs.length = n) (h0 : 0 < n) : ∃ b o, A = some ⟨b, o, none⟩ ∧ b < w.heap.size ∧ ∀ i, i < n → w.cell? ⟨b, o + i, none⟩ = some (.int .i64 (hAt hs i)) := by
  obtain ⟨b, o, rfl, hlt, hc⟩ := hA (by intro e; rw [e] at hn; simp at hn; omega)
  exact ⟨b, o, rfl, hlt, fun i hi => hc i _ (hAt_of (by rw [hn]; exact hi))⟩

set_option maxHeartbeats 1600000 in
set_option maxRecDepth 100000 in
theorem r8Abs_ok (a : Int) (w : World) (h0 : -1000000000000 ≤ a) (h1 : a ≤ 1000000000000) :
    Calls Tryd.prog 40 #[.int .i64 a] w fun e w' => e = .returned (.int .i64 (max a (-a))) ∧ w = w' := by
  have v1 : IntKind.i64.wrap (-a) = -a := IntWalk.i64_in _ (by omega)
  clear h0 h1
  go_enter Tryd.func40, Tryd.ntmps40
  go_wp2_with fail
  go_ret
  exact ⟨rfl, rfl⟩

set_option maxHeartbeats 1600000 in
set_option maxRecDepth 100000 in
theorem distance_ok (a b : Int) (w : World) (ha : -1000 ≤ a ∧ a ≤ 1000) (hb : -1000 ≤ b ∧ b ≤ 1000) :
    Calls Tryd.prog 93 #[.int .i64 a, .int .i64 b] w fun e w' => e = .returned (.int .i64 (max (a - b) (b - a))) ∧ w = w' := by
  have v1 : IntKind.i64.wrap (a - b) = a - b := IntWalk.i64_in _ (by omega)
  have v2 : IntKind.i64.wrap (b - a) = b - a := IntWalk.i64_in _ (by omega)
  clear ha hb
  go_enter Tryd.func93, Tryd.ntmps93
  go_wp2_with fail
  go_ret
  exact ⟨rfl, rfl⟩

set_option maxHeartbeats 1600000 in
set_option maxRecDepth 100000 in
theorem areHeights_ok (A : Option Addr) (c n : Nat) (hs : List Int) (w : World) (hA : IntsAt w A hs) (hX : HgtB hs) (hn : hs.length = n) :
    Calls Tryd.prog 92 #[.slice A n c] w fun e w' => e = .returned (.bool true) ∧ w = w' := by
  have HA := hid hA
  have HX := hid hX
  have HN := hid hn
  obtain ⟨n3, n10⟩ := heights_n hX hn
  clear hA hX hn
  obtain ⟨ab, ao, rfl, hlt, hc⟩ := hgt_cells HA.out HN.out (by omega)
  have HC := hid hc
  clear hc hlt
  go_enter Tryd.func92, Tryd.ntmps92
  go_wp2_with fail
  go_loopw [7] (fun i wr => ∃ k : Nat, k ≤ n ∧ i = .int .i64 (k : Int) ∧ w = wr) (fun i _ => n - (intOf i).toNat)
  case atStart => exact ⟨0, Nat.zero_le _, rfl, rfl⟩
  case round =>
    obtain ⟨k, hk, rfl, rfl⟩ := hrel
    by_cases hkl : k < n
    · have x0 := HC.out k hkl
      have hb := hAt_bd HX.out k
      have c1 : inB (hAt hs k) (-8000) 8000 = true := inB_iff.2 (by omega)
      have q0 : (0 : Int) ≤ (k : Int) := by omega
      have q1 : (k : Int) < n := by omega
      clear hb
      go_wp2_with fail
      refine (within_ok _ _ _ _).mono ?_
      rintro e w6 ⟨rfl, rfl⟩
      rw [c1]
      go_wp2_with fail
      go_roundw
      case rel => exact ⟨k + 1, by omega, by go_num, by trivial⟩
      case measure => simp [intOf]; omega
    · have q1 : ¬ (k : Int) < n := by omega
      have c1 : inB (n : Int) 3 64 = true := inB_iff.2 (by omega)
      go_wp2_with fail
      refine (within_ok _ _ _ _).mono ?_
      rintro e w6 ⟨rfl, rfl⟩
      rw [c1]
      go_wp2_with fail
      go_ret
      exact ⟨rfl, rfl⟩

set_option maxHeartbeats 1600000 in
set_option maxRecDepth 100000 in
theorem CamberOf_ok (A : Option Addr) (c n : Nat) (hs : List Int) (w : World) (hA : IntsAt w A hs) (hX : HgtB hs) (hn : hs.length = n) (st : Nat) (hst : n = st + 1) :
    Calls Tryd.prog 47 #[.slice A n c] w fun e w' => (∃ b : Nat, e = .returned (.tuple #[.int .i64 (b : Int), .int .i64 (divR (depthL hs b) (st : Int)), .int .i64 0]) ∧ b < n ∧ ∀ j : Nat, j < n → depthL hs j ≤ depthL hs b) ∧ Below w.heap.size w w' := by
  have HA := hid hA
  have HX := hid hX
  have HN := hid hn
  obtain ⟨n3, n10⟩ := heights_n hX hn
  clear hA hX hn
  obtain ⟨ab, ao, rfl, hlt, hc⟩ := hgt_cells HA.out HN.out (by omega)
  have HC := hid (show ∀ wb, Below w.heap.size w wb → ∀ i, i < n → wb.cell? ⟨ab, ao + i, none⟩ = some (.int .i64 (hAt hs i)) from fun wb hb i hi => (hb.cell (p := ⟨ab, ao + i, none⟩) hlt).trans (hc i hi))
  have HD := hid (depth_st (hs := hs) (st := st) (by rw [HN.out, hst]))
  have s2 : 2 ≤ st := by omega
  have s9 : st ≤ 9 := by omega
  have hsn : st < n := by omega
  have hns : n ≤ st + 1 := by omega
  clear hc hlt hst
  have vs : IntKind.i64.wrap ((n : Int) - 1) = (st : Int) := (IntWalk.i64_in _ (by omega)).trans (by omega)
  have vs1 : IntKind.i64.wrap ((st : Int) + 1) = (st : Int) + 1 := IntWalk.i64_in _ (by omega)
  have x0 := HC.out w (Below.refl _ _) 0 (by omega)
  have xs := HC.out w (Below.refl _ _) st hsn
  rw [Nat.add_zero] at x0
  have p0 : (0 : Int) < n := by omega
  have p1 : (0 : Int) ≤ (st : Int) := by omega
  have p2 : (st : Int) < n := by omega
  have z0 := hAt_bd HX.out 0
  have zs := hAt_bd HX.out st
  obtain ⟨f, hf⟩ : ∃ f, hAt hs 0 = f := ⟨_, rfl⟩
  obtain ⟨l, hl⟩ : ∃ l, hAt hs st = l := ⟨_, rfl⟩
  rw [hf] at x0 z0
  rw [hl] at xs zs
  have HD2 := hid (show ∀ i : Nat, depthL hs i = f * (st : Int) + (l - f) * (i : Int) - hAt hs i * (st : Int) from fun i => by rw [HD.out, hf, hl])
  have hfs := mulS (a := f) (b := (st : Int)) (by omega) (by omega)
  have v1 : IntKind.i64.wrap (f * (st : Int)) = f * (st : Int) := IntWalk.i64_in _ (by omega)
  have v2 : IntKind.i64.wrap (l - f) = l - f := IntWalk.i64_in _ (by omega)
  clear hf hl
  go_enter Tryd.func47, Tryd.ntmps47
  go_wp2_with fail
  refine (areHeights_ok _ c n hs _ HA.out HX.out HN.out).mono ?_
  rintro e w1 ⟨rfl, rfl⟩
  go_upto_region 4 with fail
  go_quiet (fail)
  rename Nat => nq
  have HB0 := hid (below_drewN w nq)
  clear x0 xs
  go_wp2_with fail
  go_loopw [8, 9, 27] (fun p d i wr => ∃ k b : Nat, k ≤ n ∧ i = .int .i64 (k : Int) ∧ p = .int .i64 (b : Int) ∧ d = .int .i64 (depthL hs b) ∧ b < n ∧ (∀ j : Nat, j < k → depthL hs j ≤ depthL hs b) ∧ Below w.heap.size w wr) (fun _ _ i _ => n - (intOf i).toNat)
  case atStart => exact ⟨0, 0, Nat.zero_le _, rfl, rfl, by rw [depth_zero], by omega, fun j h => absurd h (by omega), HB0.out⟩
  case round =>
    obtain ⟨k, b, hk, rfl, rfl, rfl, hb, hmin, hbel⟩ := hrel
    have HB := hid hbel
    clear hbel
    have HM := hid hmin
    clear hmin
    obtain ⟨D, hD⟩ : ∃ D, depthL hs b = D := ⟨_, rfl⟩
    have HDB := hid hD
    rw [hD]
    clear hD
    by_cases hkl : k < n
    · have xk := HC.out wr HB.out k hkl
      have zk := hAt_bd HX.out k
      have HK := hid (HD2.out k)
      obtain ⟨h, hh⟩ : ∃ h, hAt hs k = h := ⟨_, rfl⟩
      rw [hh] at xk zk HK
      have m1 := mulS (a := l - f) (b := (k : Int)) (by omega) (by omega)
      have m2 := mulS (a := h) (b := (st : Int)) (by omega) (by omega)
      have v3 : IntKind.i64.wrap ((l - f) * (k : Int)) = (l - f) * (k : Int) := IntWalk.i64_in _ (by omega)
      have v4 : IntKind.i64.wrap (f * (st : Int) + (l - f) * (k : Int)) = f * (st : Int) + (l - f) * (k : Int) := IntWalk.i64_in _ (by omega)
      have v5 : IntKind.i64.wrap (h * (st : Int)) = h * (st : Int) := IntWalk.i64_in _ (by omega)
      have v6 : IntKind.i64.wrap (f * (st : Int) + (l - f) * (k : Int) - h * (st : Int)) = f * (st : Int) + (l - f) * (k : Int) - h * (st : Int) := IntWalk.i64_in _ (by omega)
      have q0 : (0 : Int) ≤ (k : Int) := by omega
      have q1 : (k : Int) < n := by omega
      have q2 : (k : Int) < (st : Int) + 1 := by omega
      clear hh m1 m2
      by_cases hlt : D < f * (st : Int) + (l - f) * (k : Int) - h * (st : Int)
      · have HNW := hid (show ∀ j : Nat, j < k + 1 → depthL hs j ≤ depthL hs k from fun j hj => by
          rcases Nat.lt_or_ge j k with h1 | h1
          · have h2 := HM.out j h1
            rw [HDB.out] at h2
            rw [HK.out]
            omega
          · have e : j = k := by omega
            rw [e]
            exact Int.le_refl _)
        go_wp2_with fail
        go_roundw
        case rel => exact ⟨k + 1, k, by omega, by go_num, rfl, by rw [HK.out], hkl, HNW.out, HB.out⟩
        case measure => simp [intOf]; omega
      · have HNW := hid (show ∀ j : Nat, j < k + 1 → depthL hs j ≤ depthL hs b from fun j hj => by
          rcases Nat.lt_or_ge j k with h1 | h1
          · exact HM.out j h1
          · have e : j = k := by omega
            rw [e, HK.out, HDB.out]
            omega)
        go_wp2_with fail
        go_roundw
        case rel => exact ⟨k + 1, b, by omega, by go_num, rfl, by rw [HDB.out], hb, HNW.out, HB.out⟩
        case measure => simp [intOf]; omega
    · have q2 : ¬ (k : Int) < (st : Int) + 1 := by omega
      have HK := hid (HD2.out b)
      have zb := hAt_bd HX.out b
      have m1 := mulS (a := l - f) (b := (b : Int)) (by omega) (by omega)
      have m2 := mulS (a := hAt hs b) (b := (st : Int)) (by omega) (by omega)
      have hD9 : -1000000000 ≤ D ∧ D ≤ 1000000000 := by have h1 := HK.out; rw [HDB.out] at h1; omega
      obtain ⟨d0, d1⟩ := hD9
      clear m1 m2
      go_wp2_with fail
      refine (divRound_ok D (st : Int) _ d0 d1 (by omega) (by omega)).mono ?_
      rintro e w3 ⟨rfl, rfl⟩
      have HQ := hid (show ∃ b1 : Nat, Ending.returned (.tuple #[.int .i64 (b : Int), .int .i64 (divR D (st : Int)), .int .i64 0]) = .returned (.tuple #[.int .i64 (b1 : Int), .int .i64 (divR (depthL hs b1) (st : Int)), .int .i64 0]) ∧ b1 < n ∧ ∀ j : Nat, j < n → depthL hs j ≤ depthL hs b1 from ⟨b, by rw [HDB.out], hb, fun j hj => HM.out j (by omega)⟩)
      go_wp2_with fail
      exact bodyPost_ret (v := .tuple #[.int .i64 (b : Int), .int .i64 (divR D (st : Int)), .int .i64 0]) (by simp [results, Tryd.results47, go_sem]) rfl ⟨HQ.out, HB.out⟩

set_option maxHeartbeats 1600000 in
set_option maxRecDepth 100000 in
theorem CamberGap_ok (A : Option Addr) (c n : Nat) (hs : List Int) (w : World) (hA : IntsAt w A hs) (hX : HgtB hs) (hn : hs.length = n) :
    Calls Tryd.prog 48 #[.slice A n c] w fun e w' => (∃ m : Int, e = .returned (.tuple #[.int .i64 m, .int .i64 0]) ∧ (0 ≤ m ∧ m ≤ 400) ∧ ∀ u : Nat, u + 2 < n → -m ≤ bendL hs u ∧ bendL hs u ≤ m) ∧ Below w.heap.size w w' := by
  have HA := hid hA
  have HX := hid hX
  have HN := hid hn
  obtain ⟨n3, n10⟩ := heights_n hX hn
  clear hA hX hn
  obtain ⟨ab, ao, rfl, hlt, hc⟩ := hgt_cells HA.out HN.out (by omega)
  have HC := hid (show ∀ wb, Below w.heap.size w wb → ∀ i, i < n → wb.cell? ⟨ab, ao + i, none⟩ = some (.int .i64 (hAt hs i)) from fun wb hb i hi => (hb.cell (p := ⟨ab, ao + i, none⟩) hlt).trans (hc i hi))
  clear hc hlt
  go_enter Tryd.func48, Tryd.ntmps48
  go_wp2_with fail
  refine (areHeights_ok _ c n hs _ HA.out HX.out HN.out).mono ?_
  rintro e w1 ⟨rfl, rfl⟩
  go_wp2_with fail
  go_loopw [4, 5] (fun p i wr => ∃ (k : Nat) (m : Int), (1 ≤ k ∧ k + 1 ≤ n) ∧ i = .int .i64 (k : Int) ∧ p = .int .i64 m ∧ (0 ≤ m ∧ m ≤ 400) ∧ (∀ u : Nat, u + 1 < k → -m ≤ bendL hs u ∧ bendL hs u ≤ m) ∧ Below w.heap.size w wr) (fun _ i _ => n - (intOf i).toNat)
  case atStart => exact ⟨1, 0, ⟨by omega, by omega⟩, rfl, rfl, ⟨by omega, by omega⟩, fun u h => absurd h (by omega), Below.refl _ _⟩
  case round =>
    obtain ⟨k, m, ⟨hk1, hkn⟩, rfl, rfl, ⟨m0, m1⟩, hmin, hbel⟩ := hrel
    have HM := hid hmin
    have HB := hid hbel
    clear hmin hbel
    have vk : IntKind.i64.wrap ((k : Int) + 1) = (k : Int) + 1 := IntWalk.i64_in _ (by omega)
    by_cases hkl : k + 1 < n
    · obtain ⟨u, hu⟩ : ∃ u, k = u + 1 := ⟨k - 1, by omega⟩
      obtain ⟨v, hv⟩ : ∃ v, v = k + 1 := ⟨_, rfl⟩
      have xa := HC.out wr HB.out u (by omega)
      have xb := HC.out wr HB.out k (by omega)
      have xd := HC.out wr HB.out v (by omega)
      have za := hAt_bd HX.out u
      have zb := hAt_bd HX.out k
      have zd := hAt_bd HX.out v
      have HBD := hid (show bendL hs u = hAt hs u + hAt hs v - 2 * hAt hs k by unfold bendL; rw [hv, hu])
      obtain ⟨a, ha⟩ : ∃ a, hAt hs u = a := ⟨_, rfl⟩
      obtain ⟨b, hb⟩ : ∃ b, hAt hs k = b := ⟨_, rfl⟩
      obtain ⟨d, hd⟩ : ∃ d, hAt hs v = d := ⟨_, rfl⟩
      rw [ha] at xa za HBD
      rw [hb] at xb zb HBD
      rw [hd] at xd zd HBD
      have vu : IntKind.i64.wrap ((k : Int) - 1) = (u : Int) := (IntWalk.i64_in _ (by omega)).trans (by omega)
      have vv : (k : Int) + 1 = (v : Int) := by omega
      have HU := hid hu
      have HV := hid hv
      have hvn : v < n := by omega
      clear ha hb hd hu hv
      rw [vv] at vk
      have HVV := hid vv
      clear vv
      have v1 : IntKind.i64.wrap (a + d) = a + d := IntWalk.i64_in _ (by omega)
      have v2 : IntKind.i64.wrap (2 * b) = 2 * b := IntWalk.i64_in _ (by omega)
      have u0 : (0 : Int) ≤ (u : Int) := by omega
      have u1 : (u : Int) < n := by have := HU.out; omega
      have k0 : (0 : Int) ≤ (k : Int) := by omega
      have k1 : (k : Int) < n := by omega
      have w0 : (0 : Int) ≤ (v : Int) := by omega
      have w1 : (v : Int) < n := by omega
      have vk2 : IntKind.i64.wrap ((k : Int) + 1) = (v : Int) := by rw [HVV.out]; exact vk
      have w1' : (k : Int) + 1 < n := by have := HVV.out; omega
      have vv2 := vk
      clear vk
      go_upto_region 7 with fail
      refine wp_region_held_drew (S := (fun w' => (True ∧ Below wr.heap.size wr w') ∧ w'.cell? ⟨ab, ao + u, none⟩ = some (.int .i64 a) ∧ w'.cell? ⟨ab, ao + k, none⟩ = some (.int .i64 b) ∧ w'.cell? ⟨ab, ao + v, none⟩ = some (.int .i64 d))) (by kernel_rfl) ⟨⟨trivial, (Below.refl _ _).drew⟩, xa, xb, xd⟩ (fun hHeld => ?_)
      refine wpAnyH_take (i := 0) (oi := ⟨some 16, _, _, _, _, _⟩) (v := ?_) rfl (by kernel_rfl) (by kernel_rfl) (by kernel_rfl) (fun _ _ _ h => h) (Or.inl ⟨by rfl, ?_⟩) (by assumption) ?_
      rotate_left
      · (intro w hSw; (try dsimp only at hSw); go_simp; try with_reducible rfl)
      try simp only [Act.put, List.setIfInBounds_toArray, List.set_cons_zero, List.set_cons_succ]
      refine wpAnyH_take (i := 1) (oi := ⟨some 17, _, _, _, _, _⟩) (v := ?_) rfl (by kernel_rfl) (by kernel_rfl) (by kernel_rfl) (fun _ _ _ h => h) (Or.inl ⟨by rfl, ?_⟩) (by assumption) ?_
      rotate_left
      · (intro w hSw; (try dsimp only at hSw); go_simp; try with_reducible rfl)
      try simp only [Act.put, List.setIfInBounds_toArray, List.set_cons_zero, List.set_cons_succ]
      refine wpAnyH_take (i := 2) (oi := ⟨some 18, _, _, _, _, _⟩) (v := ?_) rfl (by kernel_rfl) (by kernel_rfl) (by kernel_rfl) (fun _ _ _ h => h) (Or.inl ⟨by rfl, ?_⟩) (by assumption) ?_
      rotate_left
      · (intro w hSw; (try dsimp only at hSw); go_simp; try with_reducible rfl)
      try simp only [Act.put, List.setIfInBounds_toArray, List.set_cons_zero, List.set_cons_succ]
      refine wpAnyH_take (i := 3) (oi := ⟨some 19, _, _, _, _, _⟩) (v := ?_) rfl (by kernel_rfl) (by kernel_rfl) (by kernel_rfl) (fun _ _ _ h => h) (Or.inl ⟨by rfl, ?_⟩) (by assumption) ?_
      rotate_left
      · (intro w hSw; (try dsimp only at hSw); go_simp; try with_reducible rfl)
      try simp only [Act.put, List.setIfInBounds_toArray, List.set_cons_zero, List.set_cons_succ]
      refine wpAnyH_take (i := 4) (oi := ⟨some 20, _, _, _, _, _⟩) (v := ?_) rfl (by kernel_rfl) (by kernel_rfl) (by kernel_rfl) (fun _ _ _ h => h) (Or.inl ⟨by rfl, ?_⟩) (by assumption) ?_
      rotate_left
      · (intro w hSw; (try dsimp only at hSw); go_simp; try with_reducible rfl)
      try simp only [Act.put, List.setIfInBounds_toArray, List.set_cons_zero, List.set_cons_succ]
      refine wpAnyH_take (i := 5) (oi := ⟨some 21, _, _, _, _, _⟩) (v := ?_) rfl (by kernel_rfl) (by kernel_rfl) (by kernel_rfl) (fun _ _ _ h => h) (Or.inl ⟨by rfl, ?_⟩) (by assumption) ?_
      rotate_left
      · (intro w hSw; (try dsimp only at hSw); go_simp; try with_reducible rfl)
      try simp only [Act.put, List.setIfInBounds_toArray, List.set_cons_zero, List.set_cons_succ]
      refine wpAnyH_take (i := 6) (oi := ⟨some 22, _, _, _, _, _⟩) (v := ?_) rfl (by kernel_rfl) (by kernel_rfl) (by kernel_rfl) (fun _ _ _ h => h) (Or.inl ⟨by rfl, ?_⟩) (by assumption) ?_
      rotate_left
      · (intro w hSw; (try dsimp only at hSw); go_simp; try with_reducible rfl)
      try simp only [Act.put, List.setIfInBounds_toArray, List.set_cons_zero, List.set_cons_succ]
      refine wpAnyH_take (i := 7) (oi := ⟨some 23, _, _, _, _, _⟩) (v := ?_) rfl (by kernel_rfl) (by kernel_rfl) (by kernel_rfl) (fun _ _ _ h => h) (Or.inl ⟨by rfl, ?_⟩) (by assumption) ?_
      rotate_left
      · (intro w hSw; (try dsimp only at hSw); go_simp; try with_reducible rfl)
      try simp only [Act.put, List.setIfInBounds_toArray, List.set_cons_zero, List.set_cons_succ]
      refine wpAnyH_take (i := 8) (oi := ⟨some 24, _, _, _, _, _⟩) (v := ?_) rfl (by kernel_rfl) (by kernel_rfl) (by kernel_rfl) (fun _ _ _ h => h) (Or.inl ⟨by rfl, ?_⟩) (by assumption) ?_
      rotate_left
      · (intro w hSw; (try dsimp only at hSw); go_simp; try with_reducible rfl)
      try simp only [Act.put, List.setIfInBounds_toArray, List.set_cons_zero, List.set_cons_succ]
      refine wpAnyH_take (i := 9) (oi := ⟨some 25, _, _, _, _, _⟩) (v := ?_) rfl (by kernel_rfl) (by kernel_rfl) (by kernel_rfl) (fun _ _ _ h => h) (Or.inl ⟨by rfl, ?_⟩) (by assumption) ?_
      rotate_left
      · (intro w hSw; (try dsimp only at hSw); go_simp; try with_reducible rfl)
      try simp only [Act.put, List.setIfInBounds_toArray, List.set_cons_zero, List.set_cons_succ]
      refine wpAnyH_take (i := 10) (oi := ⟨some 26, _, _, _, _, _⟩) (v := ?_) rfl (by kernel_rfl) (by kernel_rfl) (by kernel_rfl) (fun _ _ _ h => h) (Or.inl ⟨by rfl, ?_⟩) (by assumption) ?_
      rotate_left
      · (intro w hSw; (try dsimp only at hSw); go_simp; try with_reducible rfl)
      try simp only [Act.put, List.setIfInBounds_toArray, List.set_cons_zero, List.set_cons_succ]
      refine wpAnyH_take (i := 11) (oi := ⟨some 27, _, _, _, _, _⟩) (v := ?_) rfl (by kernel_rfl) (by kernel_rfl) (by kernel_rfl) (fun _ _ _ h => h) (Or.inl ⟨by rfl, ?_⟩) (by assumption) ?_
      rotate_left
      · (intro w hSw; (try dsimp only at hSw); go_simp; try with_reducible rfl)
      try simp only [Act.put, List.setIfInBounds_toArray, List.set_cons_zero, List.set_cons_succ]
      refine wpAnyH_take (i := 12) (oi := ⟨some 28, _, _, _, _, _⟩) (v := ?_) rfl (by kernel_rfl) (by kernel_rfl) (by kernel_rfl) (fun _ _ _ h => h) (Or.inl ⟨by rfl, ?_⟩) (by assumption) ?_
      rotate_left
      · (intro w hSw; (try dsimp only at hSw); go_simp; try with_reducible rfl)
      try simp only [Act.put, List.setIfInBounds_toArray, List.set_cons_zero, List.set_cons_succ]
      refine wpAnyH_take (i := 13) (oi := ⟨some 29, _, _, _, _, _⟩) (v := ?_) rfl (by kernel_rfl) (by kernel_rfl) (by kernel_rfl) (fun _ _ _ h => h) (Or.inl ⟨by rfl, ?_⟩) (by assumption) ?_
      rotate_left
      · (intro w hSw; (try dsimp only at hSw); go_simp; try with_reducible rfl)
      try simp only [Act.put, List.setIfInBounds_toArray, List.set_cons_zero, List.set_cons_succ]
      refine wpAnyH_take (i := 14) (oi := ⟨some 30, _, _, _, _, _⟩) (v := ?_) rfl (by kernel_rfl) (by kernel_rfl) (by kernel_rfl) (fun _ _ _ h => h) (Or.inl ⟨by rfl, ?_⟩) (by assumption) ?_
      rotate_left
      · (intro w hSw; (try dsimp only at hSw); go_simp; try with_reducible rfl)
      try simp only [Act.put, List.setIfInBounds_toArray, List.set_cons_zero, List.set_cons_succ]
      refine wpAnyH_take (i := 15) (oi := ⟨some 31, _, _, _, _, _⟩) (v := ?_) rfl (by kernel_rfl) (by kernel_rfl) (by kernel_rfl) (fun _ _ _ h => h) (Or.inl ⟨by rfl, ?_⟩) (by assumption) ?_
      rotate_left
      · (intro w hSw; (try dsimp only at hSw); go_simp; try with_reducible rfl)
      try simp only [Act.put, List.setIfInBounds_toArray, List.set_cons_zero, List.set_cons_succ]
      refine wpAnyH_take (i := 16) (oi := ⟨some 32, _, _, _, _, _⟩) (v := ?_) rfl (by kernel_rfl) (by kernel_rfl) (by kernel_rfl) (fun _ _ _ h => h) (Or.inl ⟨by rfl, ?_⟩) (by assumption) ?_
      rotate_left
      · (intro w hSw; (try dsimp only at hSw); go_simp; try with_reducible rfl)
      try simp only [Act.put, List.setIfInBounds_toArray, List.set_cons_zero, List.set_cons_succ]
      refine wpAnyH_ready (rs := [17]) (by kernel_rfl) (by simp) ?_
      refine AllReadyH.cons (o := ⟨some 33, _, _, _, _, _⟩) rfl (fun K hK => ?_) AllReadyH.nil
      go_simp
      go_at_call 93; refine (distance_ok (a + d) (2 * b) _ (by omega) (by omega)).mono ?_; rintro e w6 ⟨rfl, rfl⟩
      (try go_wp2_with fail)
      refine hK.out _ _ (hHeld) (fun hHeld => ?_)
      clear hK K
      try simp only [Act.put, List.setIfInBounds_toArray, List.set_cons_zero, List.set_cons_succ]
      refine wpAnyH_take (i := 18) (oi := ⟨some 34, _, _, _, _, _⟩) (v := ?_) rfl (by kernel_rfl) (by kernel_rfl) (by kernel_rfl) (fun _ _ _ h => h) (Or.inl ⟨by rfl, ?_⟩) (by assumption) ?_
      rotate_left
      · (intro w hSw; (try dsimp only at hSw); go_simp; try with_reducible rfl)
      try simp only [Act.put, List.setIfInBounds_toArray, List.set_cons_zero, List.set_cons_succ]
      refine wpAnyH_take (i := 19) (oi := ⟨some 4, _, _, _, _, _⟩) (v := ?_) rfl (by kernel_rfl) (by kernel_rfl) (by kernel_rfl) (fun _ _ _ h => h) (Or.inl ⟨by rfl, ?_⟩) (by assumption) ?_
      rotate_left
      · (intro w hSw; (try dsimp only at hSw); go_simp; try with_reducible rfl)
      try simp only [Act.put, List.setIfInBounds_toArray, List.set_cons_zero, List.set_cons_succ]
      refine wpAnyH_done (by kernel_rfl) ?_ _
      obtain ⟨⟨-, hb9⟩, -⟩ := hHeld
      have B9 := hid (below_trans HB.out hb9)
      have HNW := hid (show ∀ u1 : Nat, u1 + 1 < k + 1 → -(max m (max (a + d - 2 * b) (2 * b - (a + d)))) ≤ bendL hs u1 ∧ bendL hs u1 ≤ max m (max (a + d - 2 * b) (2 * b - (a + d))) from fun u1 hu1 => by
        rcases Nat.lt_or_ge (u1 + 1) k with h1 | h1
        · have h2 := HM.out u1 h1
          omega
        · have e : u1 = u := by have := HU.out; omega
          rw [e, HBD.out]
          omega)
      have hm4 : max m (max (a + d - 2 * b) (2 * b - (a + d))) ≤ 400 := by omega
      have hm5 : 0 ≤ max m (max (a + d - 2 * b) (2 * b - (a + d))) := by omega
      clear hb9 xa xb xd za zb zd
      go_wp2_with fail
      go_roundw
      case rel => exact ⟨k + 1, _, ⟨by omega, by omega⟩, by rw [← HVV.out]; go_num, rfl, ⟨hm5, hm4⟩, HNW.out, B9.out⟩
      case measure =>
        have := HV.out
        simp [intOf]
        omega
    · have q1 : ¬ (k : Int) + 1 < n := by omega
      go_wp2_with fail
      go_ret2
      exact ⟨⟨m, rfl, ⟨m0, m1⟩, fun u hu => HM.out u (by omega)⟩, HB.out⟩

end Go.Proofs.YtmfadjdpbobfhaaDoor
