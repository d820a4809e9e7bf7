/- FnOutlines: areas, the sharpest arc. -/
import Derived.Test.YtdbjbkdcmhekfaaOutD
import Derived.Deep.QuietTactic
namespace Go.Proofs.Ytdbjbkdcmhekfaa
open Go.RowKit
set_option linter.unusedVariables false

def termA (x : DArc) : Int := x.fx * x.ty - x.tx * x.fy
def areaT (xs : List DArc) : Nat → Int
  | 0 => 0
  | k + 1 => areaT xs k + (match xs[k]? with | some x => termA x | none => 0)
theorem areaT_next {xs : List DArc} {k : Nat} {x : DArc} (h : xs[k]? = some x) : areaT xs (k + 1) = areaT xs k + (x.fx * x.ty - x.tx * x.fy) := by rw [areaT, h]; rfl
theorem areaT_bd {xs : List DArc} (hX : ∀ x ∈ xs, ArcB x) : ∀ k : Nat, -((k : Int) * 200000000) ≤ areaT xs k ∧ areaT xs k ≤ (k : Int) * 200000000
  | 0 => by unfold areaT; omega
  | k + 1 => by
    have h := areaT_bd hX k
    rw [areaT]
    split
    · rename_i x hx
      obtain ⟨h1, h2, h3, h4, h5, h6⟩ := hX x (List.mem_of_getElem? hx)
      unfold InC at *
      have p1 := mulB (a := x.fx) (b := x.ty) (M := 10000) (by omega) (by omega)
      have p2 := mulB (a := x.tx) (b := x.fy) (M := 10000) (by omega) (by omega)
      have e : (((k + 1 : Nat) : Int)) * 200000000 = (k : Int) * 200000000 + 200000000 := by omega
      show -((((k + 1 : Nat) : Int)) * 200000000) ≤ areaT xs k + (x.fx * x.ty - x.tx * x.fy) ∧ areaT xs k + (x.fx * x.ty - x.tx * x.fy) ≤ (((k + 1 : Nat) : Int)) * 200000000
      omega
    · omega
def areaL (xs : List DArc) : Int := areaT xs xs.length
def radN (x : DArc) : Int := sqI x.cx x.cy x.fx x.fy

set_option maxHeartbeats 1600000 in
set_option maxRecDepth 100000 in
theorem TwiceArea_ok (A : Option Addr) (c : Nat) (xs : List DArc) (w : World) (hA : RowsAt w 6 A (xs.map DArc.cells)) (hX : OutOk xs) :
    Calls Try.prog 53 #[.slice A xs.length c] w fun e w' => e = .returned (.tuple #[.int .i64 (areaL xs), .int .i64 0]) ∧ Below w.heap.size w w' := by
  have HA := hid hA
  have HX := hid hX
  have hn2 := hX.n2
  have hn16 := hX.n16
  clear hA hX
  go_enter Try.func53, Try.ntmps53
  go_wp2_with fail
  refine (ValidOutline_ok A c xs _ HA.out HX.out).mono ?_
  rintro e w1 ⟨rfl, hb1⟩
  have HB1 := hid hb1
  clear hb1
  go_wp2_with fail
  go_loopw [4, 12] (fun v i wr => ∃ k : Nat, k ≤ xs.length ∧ i = .int .i64 (k : Int) ∧ v = .int .i64 (areaT xs k) ∧ Below w1.heap.size w1 wr) (fun _ i _ => xs.length - (intOf i).toNat)
  case atStart => exact ⟨0, Nat.zero_le _, rfl, rfl, Below.refl _ _⟩
  case round =>
    obtain ⟨k, hk, rfl, rfl, hbel⟩ := hrel
    have HB := hid hbel
    clear hbel
    by_cases hkl : k < xs.length
    · obtain ⟨x, hx⟩ : ∃ x, xs[k]? = some x := ⟨_, List.getElem?_eq_getElem hkl⟩
      have HXB := HX.out.arcs x (List.mem_of_getElem? hx)
      obtain ⟨⟨h1, h2, h3, h4, h5, h6⟩, -, -⟩ := HXB
      unfold InC at h1 h2 h3 h4 h5 h6
      have p1 := mulB (a := x.fx) (b := x.ty) (M := 10000) (by omega) (by omega)
      have p2 := mulB (a := x.tx) (b := x.fy) (M := 10000) (by omega) (by omega)
      have hab := areaT_bd (fun x hx => (HX.out.arcs x hx).bd) k
      have HN := hid (areaT_next hx)
      obtain ⟨s, hs⟩ : ∃ s, areaT xs k = s := ⟨_, rfl⟩
      rw [hs] at hab
      have v1 : IntKind.i64.wrap (x.fx * x.ty) = x.fx * x.ty := IntWalk.i64_in _ (by omega)
      have v2 : IntKind.i64.wrap (x.tx * x.fy) = x.tx * x.fy := IntWalk.i64_in _ (by omega)
      have v3 : IntKind.i64.wrap (x.fx * x.ty - x.tx * x.fy) = x.fx * x.ty - x.tx * x.fy := IntWalk.i64_in _ (by omega)
      have v4 : IntKind.i64.wrap (s + (x.fx * x.ty - x.tx * x.fy)) = s + (x.fx * x.ty - x.tx * x.fy) := IntWalk.i64_in _ (by omega)
      have HSE := hid (HN.out.trans (show areaT xs k + (x.fx * x.ty - x.tx * x.fy) = s + (x.fx * x.ty - x.tx * x.fy) by rw [hs]))
      clear h1 h2 h3 h4 h5 h6 p1 p2 hab
      obtain ⟨ab, ao, rfl, hAt⟩ := ArcAt.of_rows ((HA.out.below HB1.out).below HB.out) hx
      obtain ⟨hl0, x0, x1, x2, x3, x4, x5⟩ := hAt
      have q0 : (0 : Int) ≤ (k : Int) := by omega
      have q1 : (k : Int) < xs.length := by omega
      clear hx
      rw [hs]
      clear hs
      go_wp2_with fail
      go_roundw
      case rel => exact ⟨k + 1, by omega, by go_num, by rw [HSE.out], below_trans HB.out (below_alloc _ _)⟩
      case measure => simp [intOf]; omega
    · have hk2 : k = xs.length := by omega
      subst hk2
      have q1 : ¬ (xs.length : Int) < xs.length := by omega
      go_wp2_with fail
      go_ret2
      exact ⟨rfl, below_trans HB1.out HB.out⟩

set_option maxHeartbeats 1600000 in
set_option maxRecDepth 100000 in
theorem l05Area_ok (A : Option Addr) (c : Nat) (xs : List DArc) (w : World) (hA : RowsAt w 6 A (xs.map DArc.cells)) (hX : OutOk xs) :
    Calls Try.prog 130 #[.slice A xs.length c] w fun e w' => e = .returned (.int .i64 (areaL xs)) ∧ Below w.heap.size w w' := by
  have HA := hid hA
  have HX := hid hX
  have hn2 := hX.n2
  have hn16 := hX.n16
  clear hA hX
  go_enter Try.func130, Try.ntmps130
  go_wp2_with fail
  go_loopw [3, 4] (fun v i wr => ∃ k : Nat, k ≤ xs.length ∧ i = .int .i64 (k : Int) ∧ v = .int .i64 (areaT xs k) ∧ Below w.heap.size w wr) (fun _ i _ => xs.length - (intOf i).toNat)
  case atStart => exact ⟨0, Nat.zero_le _, rfl, rfl, Below.refl _ _⟩
  case round =>
    obtain ⟨k, hk, rfl, rfl, hbel⟩ := hrel
    have HB := hid hbel
    clear hbel
    by_cases hkl : k < xs.length
    · obtain ⟨x, hx⟩ : ∃ x, xs[k]? = some x := ⟨_, List.getElem?_eq_getElem hkl⟩
      have HXB := HX.out.arcs x (List.mem_of_getElem? hx)
      obtain ⟨⟨h1, h2, h3, h4, h5, h6⟩, -, -⟩ := HXB
      unfold InC at h1 h2 h3 h4 h5 h6
      have p1 := mulB (a := x.fx) (b := x.ty) (M := 10000) (by omega) (by omega)
      have p2 := mulB (a := x.tx) (b := x.fy) (M := 10000) (by omega) (by omega)
      have hab := areaT_bd (fun x hx => (HX.out.arcs x hx).bd) k
      have HN := hid (areaT_next hx)
      obtain ⟨s, hs⟩ : ∃ s, areaT xs k = s := ⟨_, rfl⟩
      rw [hs] at hab
      have v1 : IntKind.i64.wrap (x.fx * x.ty) = x.fx * x.ty := IntWalk.i64_in _ (by omega)
      have v2 : IntKind.i64.wrap (x.tx * x.fy) = x.tx * x.fy := IntWalk.i64_in _ (by omega)
      have v3 : IntKind.i64.wrap (x.fx * x.ty - x.tx * x.fy) = x.fx * x.ty - x.tx * x.fy := IntWalk.i64_in _ (by omega)
      have v4 : IntKind.i64.wrap (s + (x.fx * x.ty - x.tx * x.fy)) = s + (x.fx * x.ty - x.tx * x.fy) := IntWalk.i64_in _ (by omega)
      have HSE := hid (HN.out.trans (show areaT xs k + (x.fx * x.ty - x.tx * x.fy) = s + (x.fx * x.ty - x.tx * x.fy) by rw [hs]))
      clear h1 h2 h3 h4 h5 h6 p1 p2 hab
      obtain ⟨ab, ao, rfl, hAt⟩ := ArcAt.of_rows (HA.out.below HB.out) hx
      obtain ⟨hl0, x0, x1, x2, x3, x4, x5⟩ := hAt
      have q0 : (0 : Int) ≤ (k : Int) := by omega
      have q1 : (k : Int) < xs.length := by omega
      clear hx
      rw [hs]
      clear hs
      go_wp2_with fail
      go_quiet (fail)
      go_wp2_with fail
      go_roundw
      case rel => exact ⟨k + 1, by omega, by go_num, by rw [HSE.out], below_drewN' HB.out _⟩
      case measure => simp [intOf]; omega
    · have hk2 : k = xs.length := by omega
      subst hk2
      have q1 : ¬ (xs.length : Int) < xs.length := by omega
      go_wp2_with fail
      go_ret
      exact ⟨rfl, HB.out⟩

set_option maxHeartbeats 1600000 in
set_option maxRecDepth 100000 in
theorem specArea_ok (A : Option Addr) (c : Nat) (xs : List DArc) (w : World) (hA : RowsAt w 6 A (xs.map DArc.cells)) (hX : OutOk xs) :
    Calls Try.prog 63 #[.slice A xs.length c] w fun e w' => e = .returned (.tuple #[.int .i64 (areaL xs), .int .i64 0]) ∧ Below w.heap.size w w' := by
  have HA := hid hA
  have HX := hid hX
  clear hA hX
  go_enter Try.func63, Try.ntmps63
  go_wp2_with fail
  refine (l05Ok_ok A c xs _ HA.out HX.out).mono ?_
  rintro e w1 ⟨rfl, hb1⟩
  have HB1 := hid hb1
  have HA1 := hid (HA.out.below hb1)
  clear hb1
  go_wp2_with fail
  refine (l05Area_ok A c xs _ HA1.out HX.out).mono ?_
  rintro e w2 ⟨rfl, hb2⟩
  have HB2 := hid (below_trans HB1.out hb2)
  clear hb2
  go_wp2_with fail
  go_ret2
  exact ⟨rfl, HB2.out⟩

set_option maxHeartbeats 1600000 in
set_option maxRecDepth 100000 in
theorem SharpestOf_ok (A : Option Addr) (c : Nat) (xs : List DArc) (w : World) (hA : RowsAt w 6 A (xs.map DArc.cells)) (hX : OutOk xs) :
    Calls Try.prog 66 #[.slice A xs.length c] w fun e w' => (∃ b : Nat, e = .returned (.tuple #[.int .i64 (b : Int), .int .i64 0]) ∧ ∃ y, xs[b]? = some y ∧ ∀ (j : Nat) (x : DArc), xs[j]? = some x → radN y ≤ radN x) ∧ Below w.heap.size w w' := by
  have HA := hid hA
  have HX := hid hX
  have hn2 := hX.n2
  have hn16 := hX.n16
  clear hA hX
  go_enter Try.func66, Try.ntmps66
  go_wp2_with fail
  refine (ValidOutline_ok A c xs _ HA.out HX.out).mono ?_
  rintro e w1 ⟨rfl, hb1⟩
  have HB1 := hid hb1
  clear hb1
  go_wp2_with fail
  go_loopw [4, 12] (fun v i wr => ∃ (k b : Nat) (y : DArc), k ≤ xs.length ∧ i = .int .i64 (k : Int) ∧ v = .int .i64 (b : Int) ∧ Below w1.heap.size w1 wr ∧ xs[b]? = some y ∧ ∀ (j : Nat) (x : DArc), j < k → xs[j]? = some x → radN y ≤ radN x) (fun _ i _ => xs.length - (intOf i).toNat)
  case atStart => exact ⟨0, 0, _, Nat.zero_le _, rfl, rfl, Below.refl _ _, List.getElem?_eq_getElem (by omega), fun j _ h => absurd h (by omega)⟩
  case round =>
    obtain ⟨k, b, y, hk, rfl, rfl, hbel, hy, hmin⟩ := hrel
    have HB := hid hbel
    have HY := hid hy
    have HM := hid hmin
    have hbl := (List.getElem?_eq_some_iff.1 hy).1
    clear hbel hmin
    by_cases hkl : k < xs.length
    · obtain ⟨x, hx⟩ : ∃ x, xs[k]? = some x := ⟨_, List.getElem?_eq_getElem hkl⟩
      have HXK := hid hx
      have HXB := hid (HX.out.arcs x (List.mem_of_getElem? hx)).bd
      have HYB := hid (HX.out.arcs y (List.mem_of_getElem? hy)).bd
      have hAW := (HA.out.below HB1.out).below HB.out
      have hAW2 := hAW.below (below_alloc wr (.cells #[.int .i64 x.cx, .int .i64 x.cy, .int .i64 x.fx, .int .i64 x.fy, .int .i64 x.tx, .int .i64 x.ty] 88))
      obtain ⟨ab, ao, rfl, hAt⟩ := ArcAt.of_rows hAW hx
      obtain ⟨ab2, ao2, hae, hAt2⟩ := ArcAt.of_rows hAW2 hy
      injection hae with hae
      injection hae with ha1 ha2
      subst ha1 ha2
      obtain ⟨hl0, x0, x1, x2, x3, x4, x5⟩ := hAt
      obtain ⟨hl1, y0, y1, y2, y3, y4, y5⟩ := hAt2
      obtain ⟨hl, z0, z1, z2, z3, z4, z5⟩ := ArcAt.new wr x 88
      have q0 : (0 : Int) ≤ (k : Int) := by omega
      have q1 : (k : Int) < xs.length := by omega
      have i0 : (0 : Int) ≤ (b : Int) := by omega
      have i1 : (b : Int) < xs.length := by omega
      clear hx hy hAW hAW2
      go_upto_region 7 with fail
      refine wp_region_held_drew (S := (fun w' => (True ∧ Below (wr.alloc (.cells #[.int .i64 x.cx, .int .i64 x.cy, .int .i64 x.fx, .int .i64 x.fy, .int .i64 x.tx, .int .i64 x.ty] 88)).heap.size (wr.alloc (.cells #[.int .i64 x.cx, .int .i64 x.cy, .int .i64 x.fx, .int .i64 x.fy, .int .i64 x.tx, .int .i64 x.ty] 88)) w') ∧ w'.cell? ⟨wr.heap.size, 0, none⟩ = some (.int .i64 x.cx) ∧ w'.cell? ⟨wr.heap.size, 1, none⟩ = some (.int .i64 x.cy) ∧ w'.cell? ⟨wr.heap.size, 2, none⟩ = some (.int .i64 x.fx) ∧ w'.cell? ⟨wr.heap.size, 3, none⟩ = some (.int .i64 x.fy) ∧ w'.cell? ⟨ab, ao + b * 6, none⟩ = some (.int .i64 y.cx) ∧ w'.cell? ⟨ab, ao + b * 6 + 1, none⟩ = some (.int .i64 y.cy) ∧ w'.cell? ⟨ab, ao + b * 6 + 2, none⟩ = some (.int .i64 y.fx) ∧ w'.cell? ⟨ab, ao + b * 6 + 3, none⟩ = some (.int .i64 y.fy))) (by kernel_rfl) ⟨⟨trivial, (Below.refl _ _).drew⟩, z0, z1, z2, z3, y0, y1, y2, y3⟩ (fun hHeld => ?_)
      refine wpAnyH_take (i := 0) (oi := ⟨some 17, _, _, _, _, _⟩) (v := ?_) rfl (by kernel_rfl) (by kernel_rfl) (by kernel_rfl) (fun _ _ _ h => h) (Or.inl ⟨by rfl, ?_⟩) (by assumption) ?_
      rotate_left
      · (intro w hSw; (try dsimp only at hSw); go_simp; try with_reducible rfl)
      try simp only [Act.put, List.setIfInBounds_toArray, List.set_cons_zero, List.set_cons_succ]
      refine wpAnyH_take (i := 1) (oi := ⟨some 18, _, _, _, _, _⟩) (v := ?_) rfl (by kernel_rfl) (by kernel_rfl) (by kernel_rfl) (fun _ _ _ h => h) (Or.inl ⟨by rfl, ?_⟩) (by assumption) ?_
      rotate_left
      · (intro w hSw; (try dsimp only at hSw); go_simp; try with_reducible rfl)
      try simp only [Act.put, List.setIfInBounds_toArray, List.set_cons_zero, List.set_cons_succ]
      refine wpAnyH_take (i := 2) (oi := ⟨some 19, _, _, _, _, _⟩) (v := ?_) rfl (by kernel_rfl) (by kernel_rfl) (by kernel_rfl) (fun _ _ _ h => h) (Or.inl ⟨by rfl, ?_⟩) (by assumption) ?_
      rotate_left
      · (intro w hSw; (try dsimp only at hSw); go_simp; try with_reducible rfl)
      try simp only [Act.put, List.setIfInBounds_toArray, List.set_cons_zero, List.set_cons_succ]
      refine wpAnyH_take (i := 3) (oi := ⟨some 20, _, _, _, _, _⟩) (v := ?_) rfl (by kernel_rfl) (by kernel_rfl) (by kernel_rfl) (fun _ _ _ h => h) (Or.inl ⟨by rfl, ?_⟩) (by assumption) ?_
      rotate_left
      · (intro w hSw; (try dsimp only at hSw); go_simp; try with_reducible rfl)
      try simp only [Act.put, List.setIfInBounds_toArray, List.set_cons_zero, List.set_cons_succ]
      refine wpAnyH_take (i := 5) (oi := ⟨some 22, _, _, _, _, _⟩) (v := ?_) rfl (by kernel_rfl) (by kernel_rfl) (by kernel_rfl) (fun _ _ _ h => h) (Or.inl ⟨by rfl, ?_⟩) (by assumption) ?_
      rotate_left
      · (intro w hSw; (try dsimp only at hSw); go_simp; try with_reducible rfl)
      try simp only [Act.put, List.setIfInBounds_toArray, List.set_cons_zero, List.set_cons_succ]
      refine wpAnyH_take (i := 6) (oi := ⟨some 23, _, _, _, _, _⟩) (v := ?_) rfl (by kernel_rfl) (by kernel_rfl) (by kernel_rfl) (fun _ _ _ h => h) (Or.inl ⟨by rfl, ?_⟩) (by assumption) ?_
      rotate_left
      · (intro w hSw; (try dsimp only at hSw); go_simp; try with_reducible rfl)
      try simp only [Act.put, List.setIfInBounds_toArray, List.set_cons_zero, List.set_cons_succ]
      refine wpAnyH_take (i := 7) (oi := ⟨some 24, _, _, _, _, _⟩) (v := ?_) rfl (by kernel_rfl) (by kernel_rfl) (by kernel_rfl) (fun _ _ _ h => h) (Or.inl ⟨by rfl, ?_⟩) (by assumption) ?_
      rotate_left
      · (intro w hSw; (try dsimp only at hSw); go_simp; try with_reducible rfl)
      try simp only [Act.put, List.setIfInBounds_toArray, List.set_cons_zero, List.set_cons_succ]
      refine wpAnyH_take (i := 8) (oi := ⟨some 25, _, _, _, _, _⟩) (v := ?_) rfl (by kernel_rfl) (by kernel_rfl) (by kernel_rfl) (fun _ _ _ h => h) (Or.inl ⟨by rfl, ?_⟩) (by assumption) ?_
      rotate_left
      · (intro w hSw; (try dsimp only at hSw); go_simp; try with_reducible rfl)
      try simp only [Act.put, List.setIfInBounds_toArray, List.set_cons_zero, List.set_cons_succ]
      refine wpAnyH_take (i := 9) (oi := ⟨some 26, _, _, _, _, _⟩) (v := ?_) rfl (by kernel_rfl) (by kernel_rfl) (by kernel_rfl) (fun _ _ _ h => h) (Or.inl ⟨by rfl, ?_⟩) (by assumption) ?_
      rotate_left
      · (intro w hSw; (try dsimp only at hSw); go_simp; try with_reducible rfl)
      try simp only [Act.put, List.setIfInBounds_toArray, List.set_cons_zero, List.set_cons_succ]
      refine wpAnyH_take (i := 10) (oi := ⟨some 27, _, _, _, _, _⟩) (v := ?_) rfl (by kernel_rfl) (by kernel_rfl) (by kernel_rfl) (fun _ _ _ h => h) (Or.inl ⟨by rfl, ?_⟩) (by assumption) ?_
      rotate_left
      · (intro w hSw; (try dsimp only at hSw); go_simp; try with_reducible rfl)
      try simp only [Act.put, List.setIfInBounds_toArray, List.set_cons_zero, List.set_cons_succ]
      refine wpAnyH_take (i := 11) (oi := ⟨some 28, _, _, _, _, _⟩) (v := ?_) rfl (by kernel_rfl) (by kernel_rfl) (by kernel_rfl) (fun _ _ _ h => h) (Or.inl ⟨by rfl, ?_⟩) (by assumption) ?_
      rotate_left
      · (intro w hSw; (try dsimp only at hSw); go_simp; try with_reducible rfl)
      try simp only [Act.put, List.setIfInBounds_toArray, List.set_cons_zero, List.set_cons_succ]
      refine wpAnyH_take (i := 12) (oi := ⟨some 29, _, _, _, _, _⟩) (v := ?_) rfl (by kernel_rfl) (by kernel_rfl) (by kernel_rfl) (fun _ _ _ h => h) (Or.inl ⟨by rfl, ?_⟩) (by assumption) ?_
      rotate_left
      · (intro w hSw; (try dsimp only at hSw); go_simp; try with_reducible rfl)
      try simp only [Act.put, List.setIfInBounds_toArray, List.set_cons_zero, List.set_cons_succ]
      refine wpAnyH_take (i := 13) (oi := ⟨some 30, _, _, _, _, _⟩) (v := ?_) rfl (by kernel_rfl) (by kernel_rfl) (by kernel_rfl) (fun _ _ _ h => h) (Or.inl ⟨by rfl, ?_⟩) (by assumption) ?_
      rotate_left
      · (intro w hSw; (try dsimp only at hSw); go_simp; try with_reducible rfl)
      try simp only [Act.put, List.setIfInBounds_toArray, List.set_cons_zero, List.set_cons_succ]
      refine wpAnyH_take (i := 14) (oi := ⟨some 31, _, _, _, _, _⟩) (v := ?_) rfl (by kernel_rfl) (by kernel_rfl) (by kernel_rfl) (fun _ _ _ h => h) (Or.inl ⟨by rfl, ?_⟩) (by assumption) ?_
      rotate_left
      · (intro w hSw; (try dsimp only at hSw); go_simp; try with_reducible rfl)
      try simp only [Act.put, List.setIfInBounds_toArray, List.set_cons_zero, List.set_cons_succ]
      refine wpAnyH_ready (rs := [4]) (by kernel_rfl) (by simp) ?_
      refine AllReadyH.cons (o := ⟨some 21, _, _, _, _, _⟩) rfl (fun K hK => ?_) AllReadyH.nil
      go_simp
      go_at_call 126; refine (squared_ok x.cx x.cy x.fx x.fy _ HXB.out.cx HXB.out.cy HXB.out.fx HXB.out.fy).mono ?_; rintro e w6 ⟨rfl, hb6⟩
      (try go_wp2_with fail)
      refine hK.out _ _ (keepM8 hl hl hl hl hl1 hl1 hl1 hl1 ‹_ ∧ _› hb6) (fun hHeld => ?_)
      clear hK K
      try simp only [Act.put, List.setIfInBounds_toArray, List.set_cons_zero, List.set_cons_succ]
      refine wpAnyH_ready (rs := [15]) (by kernel_rfl) (by simp) ?_
      refine AllReadyH.cons (o := ⟨some 32, _, _, _, _, _⟩) rfl (fun K hK => ?_) AllReadyH.nil
      go_simp
      go_at_call 126; refine (squared_ok y.cx y.cy y.fx y.fy _ HYB.out.cx HYB.out.cy HYB.out.fx HYB.out.fy).mono ?_; rintro e w6 ⟨rfl, hb6⟩
      (try go_wp2_with fail)
      refine hK.out _ _ (keepM8 hl hl hl hl hl1 hl1 hl1 hl1 ‹_ ∧ _› hb6) (fun hHeld => ?_)
      clear hK K
      try simp only [Act.put, List.setIfInBounds_toArray, List.set_cons_zero, List.set_cons_succ]
      refine wpAnyH_take (i := 16) (oi := ⟨some 33, _, _, _, _, _⟩) (v := ?_) rfl (by kernel_rfl) (by kernel_rfl) (by kernel_rfl) (fun _ _ _ h => h) (Or.inl ⟨by rfl, ?_⟩) (by assumption) ?_
      rotate_left
      · (intro w hSw; (try dsimp only at hSw); go_simp; try with_reducible rfl)
      try simp only [Act.put, List.setIfInBounds_toArray, List.set_cons_zero, List.set_cons_succ]
      refine wpAnyH_done (by kernel_rfl) ?_ _
      obtain ⟨⟨-, hBw⟩, -⟩ := hHeld
      have B5 := hid (below_trans (below_trans HB.out (below_alloc wr (.cells #[.int .i64 x.cx, .int .i64 x.cy, .int .i64 x.fx, .int .i64 x.fy, .int .i64 x.tx, .int .i64 x.ty] 88))) hBw)
      clear hBw x0 x1 x2 x3 x4 x5 z0 z1 z2 z3 z4 z5 y0 y1 y2 y3 y4 y5
      by_cases hlt : sqI x.cx x.cy x.fx x.fy < sqI y.cx y.cy y.fx y.fy
      · have HN := hid (show ∀ (j : Nat) (z : DArc), j < k + 1 → xs[j]? = some z → radN x ≤ radN z from fun j z hj hz => by
          rcases Nat.lt_or_ge j k with h | h
          · have h1 := HM.out j z h hz
            have h2 : radN x < radN y := hlt
            omega
          · have e : j = k := by omega
            subst e
            rw [HXK.out] at hz
            injection hz with hz
            subst hz
            exact Int.le_refl _)
        go_wp2_with fail
        go_roundw
        case rel => exact ⟨k + 1, k, x, by omega, by go_num, rfl, B5.out, HXK.out, HN.out⟩
        case measure => simp [intOf]; omega
      · have HN := hid (show ∀ (j : Nat) (z : DArc), j < k + 1 → xs[j]? = some z → radN y ≤ radN z from fun j z hj hz => by
          rcases Nat.lt_or_ge j k with h | h
          · exact HM.out j z h hz
          · have e : j = k := by omega
            subst e
            rw [HXK.out] at hz
            injection hz with hz
            subst hz
            have h2 : ¬ radN x < radN y := hlt
            omega)
        go_wp2_with fail
        go_roundw
        case rel => exact ⟨k + 1, b, y, by omega, by go_num, rfl, B5.out, HY.out, HN.out⟩
        case measure => simp [intOf]; omega
    · have hk2 : k = xs.length := by omega
      subst hk2
      have q1 : ¬ (xs.length : Int) < xs.length := by omega
      go_wp2_with fail
      go_ret2
      exact ⟨⟨b, rfl, y, HY.out, fun j x hx => HM.out j x (List.getElem?_eq_some_iff.1 hx).1 hx⟩, below_trans HB1.out HB.out⟩

end Go.Proofs.Ytdbjbkdcmhekfaa
