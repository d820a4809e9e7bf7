/- FnOutlines: outlines tested. -/
import Derived.Test.YtdbjbkdcmhekfaaOutB
namespace Go.Proofs.Ytdbjbkdcmhekfaa
open Go.RowKit
set_option linter.unusedVariables false

/-- the arc behind one -/
def nxK (n k : Nat) : Nat := (k + 1) % n
theorem nxK_mod (n k : Nat) : ((k : Int) + 1).tmod (n : Int) = ((nxK n k : Nat) : Int) := (Int.ofNat_tmod (k + 1) n).symm
theorem nxK_lt {n k : Nat} (h : 0 < n) : nxK n k < n := Nat.mod_lt _ h
theorem field_from (a b c d e f : Value) (w : World) : (Instr.field 88 (.agg #[a, b, c, d, e, f]) 1).run Try.prog w = .ok (.agg #[c, d]) w := by kernel_rfl
structure OutB (xs : List DArc) : Prop where
  bd : ∀ x ∈ xs, ArcB x
  n2 : 2 ≤ xs.length
  n16 : xs.length ≤ 16
structure OutOk (xs : List DArc) : Prop where
  arcs : ∀ x ∈ xs, ArcOk x
  n2 : 2 ≤ xs.length
  n16 : xs.length ≤ 16
  chain : ∀ (i : Nat) (x y : DArc), xs[i]? = some x → xs[nxK xs.length i]? = some y → y.fx = x.tx ∧ y.fy = x.ty

set_option maxHeartbeats 1600000 in
set_option maxRecDepth 100000 in
theorem outNext_ok (A : Option Addr) (c k : Nat) (xs : List DArc) (y : DArc) (w : World) (hA : RowsAt w 6 A (xs.map DArc.cells)) (hk : k < xs.length) (hn : xs.length ≤ 16) (hy : xs[nxK xs.length k]? = some y) :
    Calls Try.prog 119 #[.slice A xs.length c, .int .i64 (k : Int)] w fun e w' => e = .returned (.agg #[.int .i64 y.cx, .int .i64 y.cy, .int .i64 y.fx, .int .i64 y.fy, .int .i64 y.tx, .int .i64 y.ty]) ∧ Below w.heap.size w w' := by
  obtain ⟨ab, ao, rfl, hAt⟩ := ArcAt.of_rows hA hy
  obtain ⟨hl, x0, x1, x2, x3, x4, x5⟩ := hAt
  have hj := nxK_lt (n := xs.length) (k := k) (by omega)
  have hje := nxK_mod xs.length k
  obtain ⟨j, hj0⟩ : ∃ j, nxK xs.length k = j := ⟨_, rfl⟩
  rw [hj0] at hj hje x0 x1 x2 x3 x4 x5
  have i0 : (0 : Int) ≤ (j : Int) := by omega
  have i1 : (j : Int) < xs.length := by omega
  have i2 : ¬ (xs.length : Int) = 0 := by omega
  have i3 : ¬ xs.length = 0 := by omega
  clear hA hy hj0
  go_enter Try.func119, Try.ntmps119
  go_wp2_with fail
  exact bodyPost_ret (v := .agg #[.int .i64 y.cx, .int .i64 y.cy, .int .i64 y.fx, .int .i64 y.fy, .int .i64 y.tx, .int .i64 y.ty]) (by simp [results, Try.results119, go_sem]) rfl ⟨rfl, by repeat (first | refine Below.drew ?_ | exact Below.refl _ _ | exact below_alloc _ _ | refine Below.alloc ?_ (by simp <;> omega) _ | refine Below.setCell ?_ (by simp <;> omega) _)⟩

set_option maxHeartbeats 1600000 in
set_option maxRecDepth 100000 in
theorem ValidOutline_ok (A : Option Addr) (c : Nat) (xs : List DArc) (w : World) (hA : RowsAt w 6 A (xs.map DArc.cells)) (hX : OutOk xs) :
    Calls Try.prog 56 #[.slice A xs.length c] w fun e w' => e = .returned (.bool true) ∧ Below w.heap.size w w' := by
  have HA := hid hA
  have HX := hid hX
  have hn2 := hX.n2
  have hn16 := hX.n16
  clear hA hX
  go_enter Try.func56, Try.ntmps56
  go_wp2_with fail
  go_loopw [7] (fun i wr => ∃ k : Nat, k ≤ xs.length ∧ i = .int .i64 (k : Int) ∧ Below w.heap.size w wr) (fun i _ => xs.length - (intOf i).toNat)
  case atStart => exact ⟨0, Nat.zero_le _, rfl, Below.refl _ _⟩
  case round =>
    obtain ⟨k, hk, rfl, hbel⟩ := hrel
    have HB := hid hbel
    clear hbel
    by_cases hkl : k < xs.length
    · obtain ⟨x, hx⟩ : ∃ x, xs[k]? = some x := ⟨_, List.getElem?_eq_getElem hkl⟩
      obtain ⟨y, hy⟩ : ∃ y, xs[nxK xs.length k]? = some y := ⟨_, List.getElem?_eq_getElem (nxK_lt (by omega))⟩
      obtain ⟨e1, e2⟩ := HX.out.chain k x y hx hy
      have HXK := hid (HX.out.arcs x (List.mem_of_getElem? hx))
      have HY := hid hy
      have HAW := hid ((HA.out.below HB.out).below (below_alloc wr (.cells #[.int .i64 x.cx, .int .i64 x.cy, .int .i64 x.fx, .int .i64 x.fy, .int .i64 x.tx, .int .i64 x.ty] 88)))
      have HBW := hid (below_trans HB.out (below_alloc wr (.cells #[.int .i64 x.cx, .int .i64 x.cy, .int .i64 x.fx, .int .i64 x.fy, .int .i64 x.tx, .int .i64 x.ty] 88)))
      obtain ⟨ab, ao, rfl, hAt⟩ := ArcAt.of_rows (HA.out.below HB.out) hx
      obtain ⟨hl0, x0, x1, x2, x3, x4, x5⟩ := hAt
      obtain ⟨hl, z0, z1, z2, z3, z4, z5⟩ := ArcAt.new wr x 88
      have q0 : (0 : Int) ≤ (k : Int) := by omega
      have q1 : (k : Int) < xs.length := by omega
      have hfd := field_from
      clear hx hy
      go_upto_region 4 with fail
      refine wp_region_held_drew (S := (fun w' => (True ∧ Below (wr.alloc (.cells #[.int .i64 x.cx, .int .i64 x.cy, .int .i64 x.fx, .int .i64 x.fy, .int .i64 x.tx, .int .i64 x.ty] 88)).heap.size (wr.alloc (.cells #[.int .i64 x.cx, .int .i64 x.cy, .int .i64 x.fx, .int .i64 x.fy, .int .i64 x.tx, .int .i64 x.ty] 88)) w') ∧ w'.cell? ⟨wr.heap.size, 0, none⟩ = some (.int .i64 x.cx) ∧ w'.cell? ⟨wr.heap.size, 1, none⟩ = some (.int .i64 x.cy) ∧ w'.cell? ⟨wr.heap.size, 2, none⟩ = some (.int .i64 x.fx) ∧ w'.cell? ⟨wr.heap.size, 3, none⟩ = some (.int .i64 x.fy) ∧ w'.cell? ⟨wr.heap.size, 4, none⟩ = some (.int .i64 x.tx) ∧ w'.cell? ⟨wr.heap.size, 5, none⟩ = some (.int .i64 x.ty))) (by kernel_rfl) ⟨⟨trivial, (Below.refl _ _).drew⟩, z0, z1, z2, z3, z4, z5⟩ (fun hHeld => ?_)
      refine wpAnyH_take (i := 0) (oi := ⟨some 12, _, _, _, _, _⟩) (v := ?_) rfl (by kernel_rfl) (by kernel_rfl) (by kernel_rfl) (fun _ _ _ h => h) (Or.inl ⟨by rfl, ?_⟩) (by assumption) ?_
      rotate_left
      · (intro w hSw; (try dsimp only at hSw); go_simp; try with_reducible rfl)
      try simp only [Act.put, List.setIfInBounds_toArray, List.set_cons_zero, List.set_cons_succ]
      refine wpAnyH_ready (rs := [1]) (by kernel_rfl) (by simp) ?_
      refine AllReadyH.cons (o := ⟨some 13, _, _, _, _, _⟩) rfl (fun K hK => ?_) AllReadyH.nil
      go_simp
      go_at_call 125; refine (ValidArc_ok x _ HXK.out).mono ?_; rintro e w6 ⟨rfl, hb6⟩
      (try go_wp2_with fail)
      refine hK.out _ _ (keepM6 hl hl hl hl hl hl ‹_ ∧ _› hb6) (fun hHeld => ?_)
      clear hK K
      try simp only [Act.put, List.setIfInBounds_toArray, List.set_cons_zero, List.set_cons_succ]
      refine wpAnyH_take (i := 2) (oi := ⟨some 14, _, _, _, _, _⟩) (v := ?_) rfl (by kernel_rfl) (by kernel_rfl) (by kernel_rfl) (fun _ _ _ h => h) (Or.inl ⟨by rfl, ?_⟩) (by assumption) ?_
      rotate_left
      · (intro w hSw; (try dsimp only at hSw); go_simp; try with_reducible rfl)
      try simp only [Act.put, List.setIfInBounds_toArray, List.set_cons_zero, List.set_cons_succ]
      refine wpAnyH_take (i := 3) (oi := ⟨some 15, _, _, _, _, _⟩) (v := ?_) rfl (by kernel_rfl) (by kernel_rfl) (by kernel_rfl) (fun _ _ _ h => h) (Or.inl ⟨by rfl, ?_⟩) (by assumption) ?_
      rotate_left
      · (intro w hSw; (try dsimp only at hSw); go_simp; try with_reducible rfl)
      try simp only [Act.put, List.setIfInBounds_toArray, List.set_cons_zero, List.set_cons_succ]
      refine wpAnyH_take (i := 4) (oi := ⟨some 16, _, _, _, _, _⟩) (v := ?_) rfl (by kernel_rfl) (by kernel_rfl) (by kernel_rfl) (fun _ _ _ h => h) (Or.inl ⟨by rfl, ?_⟩) (by assumption) ?_
      rotate_left
      · (intro w hSw; (try dsimp only at hSw); go_simp; try with_reducible rfl)
      try simp only [Act.put, List.setIfInBounds_toArray, List.set_cons_zero, List.set_cons_succ]
      refine wpAnyH_take (i := 5) (oi := ⟨some 17, _, _, _, _, _⟩) (v := ?_) rfl (by kernel_rfl) (by kernel_rfl) (by kernel_rfl) (fun _ _ _ h => h) (Or.inl ⟨by rfl, ?_⟩) (by assumption) ?_
      rotate_left
      · (intro w hSw; (try dsimp only at hSw); go_simp; try with_reducible rfl)
      try simp only [Act.put, List.setIfInBounds_toArray, List.set_cons_zero, List.set_cons_succ]
      refine wpAnyH_take (i := 8) (oi := ⟨some 20, _, _, _, _, _⟩) (v := ?_) rfl (by kernel_rfl) (by kernel_rfl) (by kernel_rfl) (fun _ _ _ h => h) (Or.inl ⟨by rfl, ?_⟩) (by assumption) ?_
      rotate_left
      · (intro w hSw; (try dsimp only at hSw); go_simp; try with_reducible rfl)
      try simp only [Act.put, List.setIfInBounds_toArray, List.set_cons_zero, List.set_cons_succ]
      refine wpAnyH_take (i := 9) (oi := ⟨some 21, _, _, _, _, _⟩) (v := ?_) rfl (by kernel_rfl) (by kernel_rfl) (by kernel_rfl) (fun _ _ _ h => h) (Or.inl ⟨by rfl, ?_⟩) (by assumption) ?_
      rotate_left
      · (intro w hSw; (try dsimp only at hSw); go_simp; try with_reducible rfl)
      try simp only [Act.put, List.setIfInBounds_toArray, List.set_cons_zero, List.set_cons_succ]
      refine wpAnyH_ready (rs := [6]) (by kernel_rfl) (by simp) ?_
      refine AllReadyH.cons (o := ⟨some 18, _, _, _, _, _⟩) rfl (fun K hK => ?_) AllReadyH.nil
      go_simp
      go_at_call 119; refine (outNext_ok _ c k xs y _ (HAW.out.below hHeld.1.2) hkl hn16 HY.out).mono ?_; rintro e w6 ⟨rfl, hb6⟩
      (try go_wp2_with fail)
      refine hK.out _ _ (keepM6 hl hl hl hl hl hl ‹_ ∧ _› hb6) (fun hHeld => ?_)
      clear hK K
      try simp only [Act.put, List.setIfInBounds_toArray, List.set_cons_zero, List.set_cons_succ]
      refine wpAnyH_take (i := 7) (oi := ⟨some 19, _, _, _, _, _⟩) (v := ?_) rfl (by kernel_rfl) (by kernel_rfl) (by kernel_rfl) (fun _ _ _ h => h) (Or.inl ⟨by rfl, ?_⟩) (by assumption) ?_
      rotate_left
      · (intro w hSw; (try dsimp only at hSw); go_simp; try with_reducible rfl)
      try simp only [Act.put, List.setIfInBounds_toArray, List.set_cons_zero, List.set_cons_succ]
      refine wpAnyH_take (i := 10) (oi := ⟨some 22, _, _, _, _, _⟩) (v := .bool false) rfl (by kernel_rfl) (by kernel_rfl) (by kernel_rfl) (fun _ _ _ h => h) (Or.inl ⟨by rfl, ?_⟩) (by assumption) ?_
      · (intro w hSw; (try dsimp only at hSw); go_simp; skip)
      try simp only [Act.put, List.setIfInBounds_toArray, List.set_cons_zero, List.set_cons_succ]
      refine wpAnyH_take (i := 11) (oi := ⟨some 23, _, _, _, _, _⟩) (v := ?_) rfl (by kernel_rfl) (by kernel_rfl) (by kernel_rfl) (fun _ _ _ h => h) (Or.inl ⟨by rfl, ?_⟩) (by assumption) ?_
      rotate_left
      · (intro w hSw; (try dsimp only at hSw); go_simp; try with_reducible rfl)
      try simp only [Act.put, List.setIfInBounds_toArray, List.set_cons_zero, List.set_cons_succ]
      refine wpAnyH_done (by kernel_rfl) ?_ _
      obtain ⟨⟨-, hBw⟩, -⟩ := hHeld
      have HB2 := hid (below_trans HBW.out hBw)
      clear hBw x0 x1 x2 x3 x4 x5 z0 z1 z2 z3 z4 z5
      go_wp2_with fail
      go_roundw
      case rel => exact ⟨k + 1, by omega, by go_num, HB2.out⟩
      case measure => simp [intOf]; omega
    · have q1 : ¬ (k : Int) < xs.length := by omega
      have c1 : inB (xs.length : Int) 2 16 = true := inB_iff.2 (by omega)
      go_wp2_with fail
      refine (within_ok _ _ _ _).mono ?_
      rintro e w6 ⟨rfl, rfl⟩
      rw [c1]
      go_wp2_with fail
      go_ret
      exact ⟨rfl, HB.out⟩

set_option maxHeartbeats 1600000 in
set_option maxRecDepth 100000 in
theorem l05Ok_ok (A : Option Addr) (c : Nat) (xs : List DArc) (w : World) (hA : RowsAt w 6 A (xs.map DArc.cells)) (hX : OutOk xs) :
    Calls Try.prog 123 #[.slice A xs.length c] w fun e w' => e = .returned (.bool true) ∧ Below w.heap.size w w' := by
  have HA := hid hA
  have HX := hid hX
  have hn2 := hX.n2
  have hn16 := hX.n16
  clear hA hX
  go_enter Try.func123, Try.ntmps123
  go_wp2_with fail
  go_loopw [4] (fun i wr => ∃ k : Nat, k ≤ xs.length ∧ i = .int .i64 (k : Int) ∧ Below w.heap.size w wr) (fun i _ => xs.length - (intOf i).toNat)
  case atStart => exact ⟨0, Nat.zero_le _, rfl, Below.refl _ _⟩
  case round =>
    obtain ⟨k, hk, rfl, hbel⟩ := hrel
    have HB := hid hbel
    clear hbel
    by_cases hkl : k < xs.length
    · obtain ⟨x, hx⟩ : ∃ x, xs[k]? = some x := ⟨_, List.getElem?_eq_getElem hkl⟩
      obtain ⟨y, hy⟩ : ∃ y, xs[nxK xs.length k]? = some y := ⟨_, List.getElem?_eq_getElem (nxK_lt (by omega))⟩
      obtain ⟨e1, e2⟩ := HX.out.chain k x y hx hy
      have HXK := hid (HX.out.arcs x (List.mem_of_getElem? hx))
      have hAW := HA.out.below HB.out
      obtain ⟨ab, ao, rfl, hAt⟩ := ArcAt.of_rows hAW hx
      obtain ⟨ab2, ao2, hae, hAt2⟩ := ArcAt.of_rows hAW hy
      injection hae with hae
      injection hae with ha1 ha2
      subst ha1 ha2
      have HAT := hid hAt
      obtain ⟨hl0, x0, x1, x2, x3, x4, x5⟩ := hAt
      obtain ⟨hl1, y0, y1, y2, y3, y4, y5⟩ := hAt2
      have hj := nxK_lt (n := xs.length) (k := k) (by omega)
      have hje := nxK_mod xs.length k
      obtain ⟨j, hj0⟩ : ∃ j, nxK xs.length k = j := ⟨_, rfl⟩
      rw [hj0] at hj hje y0 y1 y2 y3 y4 y5
      have i0 : (0 : Int) ≤ (j : Int) := by omega
      have i1 : (j : Int) < xs.length := by omega
      have i2 : ¬ (xs.length : Int) = 0 := by omega
      have i3 : ¬ xs.length = 0 := by omega
      have vk : IntKind.i64.wrap ((k : Int) + 1) = (k : Int) + 1 := IntWalk.i64_in _ (by omega)
      have q0 : (0 : Int) ≤ (k : Int) := by omega
      have q1 : (k : Int) < xs.length := by omega
      clear hx hy hAW hj0 x0 x1 x2 x3 y0 y1 y4 y5
      go_upto_region 5 with fail
      refine wp_region_held_drew (S := (fun w' => (True ∧ Below wr.heap.size wr w') ∧ w'.cell? ⟨ab, ao + k * 6 + 4, none⟩ = some (.int .i64 x.tx) ∧ w'.cell? ⟨ab, ao + k * 6 + 5, none⟩ = some (.int .i64 x.ty) ∧ w'.cell? ⟨ab, ao + j * 6 + 2, none⟩ = some (.int .i64 y.fx) ∧ w'.cell? ⟨ab, ao + j * 6 + 3, none⟩ = some (.int .i64 y.fy))) (by kernel_rfl) ⟨⟨trivial, (Below.refl _ _).drew⟩, x4, x5, y2, y3⟩ (fun hHeld => ?_)
      refine wpAnyH_take (i := 0) (oi := ⟨some 12, _, _, _, _, _⟩) (v := ?_) rfl (by kernel_rfl) (by kernel_rfl) (by kernel_rfl) (fun _ _ _ h => h) (Or.inl ⟨by rfl, ?_⟩) (by assumption) ?_
      rotate_left
      · (intro w hSw; (try dsimp only at hSw); go_simp; try with_reducible rfl)
      try simp only [Act.put, List.setIfInBounds_toArray, List.set_cons_zero, List.set_cons_succ]
      refine wpAnyH_take (i := 1) (oi := ⟨some 13, _, _, _, _, _⟩) (v := ?_) rfl (by kernel_rfl) (by kernel_rfl) (by kernel_rfl) (fun _ _ _ h => h) (Or.inl ⟨by rfl, ?_⟩) (by assumption) ?_
      rotate_left
      · (intro w hSw; (try dsimp only at hSw); go_simp; try with_reducible rfl)
      try simp only [Act.put, List.setIfInBounds_toArray, List.set_cons_zero, List.set_cons_succ]
      refine wpAnyH_take (i := 2) (oi := ⟨some 14, _, _, _, _, _⟩) (v := ?_) rfl (by kernel_rfl) (by kernel_rfl) (by kernel_rfl) (fun _ _ _ h => h) (Or.inl ⟨by rfl, ?_⟩) (by assumption) ?_
      rotate_left
      · (intro w hSw; (try dsimp only at hSw); go_simp; try with_reducible rfl)
      try simp only [Act.put, List.setIfInBounds_toArray, List.set_cons_zero, List.set_cons_succ]
      refine wpAnyH_ready (rs := [3]) (by kernel_rfl) (by simp) ?_
      refine AllReadyH.cons (o := ⟨some 15, _, _, _, _, _⟩) rfl (fun K hK => ?_) AllReadyH.nil
      go_simp
      go_at_call 127; refine (l05One_ok ab (ao + k * 6) x _ (HAT.out.below hHeld.1.2) HXK.out).mono ?_; rintro e w6 ⟨rfl, hb6⟩
      (try go_wp2_with fail)
      refine hK.out _ _ (keepM4 hl0 hl0 hl0 hl0 ‹_ ∧ _› hb6) (fun hHeld => ?_)
      clear hK K
      try simp only [Act.put, List.setIfInBounds_toArray, List.set_cons_zero, List.set_cons_succ]
      refine wpAnyH_take (i := 4) (oi := ⟨some 16, _, _, _, _, _⟩) (v := ?_) rfl (by kernel_rfl) (by kernel_rfl) (by kernel_rfl) (fun _ _ _ h => h) (Or.inl ⟨by rfl, ?_⟩) (by assumption) ?_
      rotate_left
      · (intro w hSw; (try dsimp only at hSw); go_simp; try with_reducible rfl)
      try simp only [Act.put, List.setIfInBounds_toArray, List.set_cons_zero, List.set_cons_succ]
      refine wpAnyH_take (i := 5) (oi := ⟨some 17, _, _, _, _, _⟩) (v := ?_) rfl (by kernel_rfl) (by kernel_rfl) (by kernel_rfl) (fun _ _ _ h => h) (Or.inl ⟨by rfl, ?_⟩) (by assumption) ?_
      rotate_left
      · (intro w hSw; (try dsimp only at hSw); go_simp; try with_reducible rfl)
      try simp only [Act.put, List.setIfInBounds_toArray, List.set_cons_zero, List.set_cons_succ]
      refine wpAnyH_take (i := 6) (oi := ⟨some 18, _, _, _, _, _⟩) (v := ?_) rfl (by kernel_rfl) (by kernel_rfl) (by kernel_rfl) (fun _ _ _ h => h) (Or.inl ⟨by rfl, ?_⟩) (by assumption) ?_
      rotate_left
      · (intro w hSw; (try dsimp only at hSw); go_simp; try with_reducible rfl)
      try simp only [Act.put, List.setIfInBounds_toArray, List.set_cons_zero, List.set_cons_succ]
      refine wpAnyH_take (i := 7) (oi := ⟨some 19, _, _, _, _, _⟩) (v := ?_) rfl (by kernel_rfl) (by kernel_rfl) (by kernel_rfl) (fun _ _ _ h => h) (Or.inl ⟨by rfl, ?_⟩) (by assumption) ?_
      rotate_left
      · (intro w hSw; (try dsimp only at hSw); go_simp; try with_reducible rfl)
      try simp only [Act.put, List.setIfInBounds_toArray, List.set_cons_zero, List.set_cons_succ]
      refine wpAnyH_take (i := 8) (oi := ⟨some 20, _, _, _, _, _⟩) (v := ?_) rfl (by kernel_rfl) (by kernel_rfl) (by kernel_rfl) (fun _ _ _ h => h) (Or.inl ⟨by rfl, ?_⟩) (by assumption) ?_
      rotate_left
      · (intro w hSw; (try dsimp only at hSw); go_simp; try with_reducible rfl)
      try simp only [Act.put, List.setIfInBounds_toArray, List.set_cons_zero, List.set_cons_succ]
      refine wpAnyH_take (i := 9) (oi := ⟨some 21, _, _, _, _, _⟩) (v := ?_) rfl (by kernel_rfl) (by kernel_rfl) (by kernel_rfl) (fun _ _ _ h => h) (Or.inl ⟨by rfl, ?_⟩) (by assumption) ?_
      rotate_left
      · (intro w hSw; (try dsimp only at hSw); go_simp; try with_reducible rfl)
      try simp only [Act.put, List.setIfInBounds_toArray, List.set_cons_zero, List.set_cons_succ]
      refine wpAnyH_take (i := 10) (oi := ⟨some 22, _, _, _, _, _⟩) (v := ?_) rfl (by kernel_rfl) (by kernel_rfl) (by kernel_rfl) (fun _ _ _ h => h) (Or.inl ⟨by rfl, ?_⟩) (by assumption) ?_
      rotate_left
      · (intro w hSw; (try dsimp only at hSw); go_simp; try with_reducible rfl)
      try simp only [Act.put, List.setIfInBounds_toArray, List.set_cons_zero, List.set_cons_succ]
      refine wpAnyH_take (i := 11) (oi := ⟨some 23, _, _, _, _, _⟩) (v := ?_) rfl (by kernel_rfl) (by kernel_rfl) (by kernel_rfl) (fun _ _ _ h => h) (Or.inl ⟨by rfl, ?_⟩) (by assumption) ?_
      rotate_left
      · (intro w hSw; (try dsimp only at hSw); go_simp; try with_reducible rfl)
      try simp only [Act.put, List.setIfInBounds_toArray, List.set_cons_zero, List.set_cons_succ]
      refine wpAnyH_take (i := 12) (oi := ⟨some 24, _, _, _, _, _⟩) (v := ?_) rfl (by kernel_rfl) (by kernel_rfl) (by kernel_rfl) (fun _ _ _ h => h) (Or.inl ⟨by rfl, ?_⟩) (by assumption) ?_
      rotate_left
      · (intro w hSw; (try dsimp only at hSw); go_simp; try with_reducible rfl)
      try simp only [Act.put, List.setIfInBounds_toArray, List.set_cons_zero, List.set_cons_succ]
      refine wpAnyH_take (i := 13) (oi := ⟨some 25, _, _, _, _, _⟩) (v := ?_) rfl (by kernel_rfl) (by kernel_rfl) (by kernel_rfl) (fun _ _ _ h => h) (Or.inl ⟨by rfl, ?_⟩) (by assumption) ?_
      rotate_left
      · (intro w hSw; (try dsimp only at hSw); go_simp; try with_reducible rfl)
      try simp only [Act.put, List.setIfInBounds_toArray, List.set_cons_zero, List.set_cons_succ]
      refine wpAnyH_take (i := 14) (oi := ⟨some 26, _, _, _, _, _⟩) (v := ?_) rfl (by kernel_rfl) (by kernel_rfl) (by kernel_rfl) (fun _ _ _ h => h) (Or.inl ⟨by rfl, ?_⟩) (by assumption) ?_
      rotate_left
      · (intro w hSw; (try dsimp only at hSw); go_simp; try with_reducible rfl)
      try simp only [Act.put, List.setIfInBounds_toArray, List.set_cons_zero, List.set_cons_succ]
      refine wpAnyH_take (i := 15) (oi := ⟨some 27, _, _, _, _, _⟩) (v := ?_) rfl (by kernel_rfl) (by kernel_rfl) (by kernel_rfl) (fun _ _ _ h => h) (Or.inl ⟨by rfl, ?_⟩) (by assumption) ?_
      rotate_left
      · (intro w hSw; (try dsimp only at hSw); go_simp; try with_reducible rfl)
      try simp only [Act.put, List.setIfInBounds_toArray, List.set_cons_zero, List.set_cons_succ]
      refine wpAnyH_take (i := 16) (oi := ⟨some 28, _, _, _, _, _⟩) (v := ?_) rfl (by kernel_rfl) (by kernel_rfl) (by kernel_rfl) (fun _ _ _ h => h) (Or.inl ⟨by rfl, ?_⟩) (by assumption) ?_
      rotate_left
      · (intro w hSw; (try dsimp only at hSw); go_simp; try with_reducible rfl)
      try simp only [Act.put, List.setIfInBounds_toArray, List.set_cons_zero, List.set_cons_succ]
      refine wpAnyH_take (i := 17) (oi := ⟨some 29, _, _, _, _, _⟩) (v := ?_) rfl (by kernel_rfl) (by kernel_rfl) (by kernel_rfl) (fun _ _ _ h => h) (Or.inl ⟨by rfl, ?_⟩) (by assumption) ?_
      rotate_left
      · (intro w hSw; (try dsimp only at hSw); go_simp; try with_reducible rfl)
      try simp only [Act.put, List.setIfInBounds_toArray, List.set_cons_zero, List.set_cons_succ]
      refine wpAnyH_take (i := 18) (oi := ⟨some 30, _, _, _, _, _⟩) (v := ?_) rfl (by kernel_rfl) (by kernel_rfl) (by kernel_rfl) (fun _ _ _ h => h) (Or.inl ⟨by rfl, ?_⟩) (by assumption) ?_
      rotate_left
      · (intro w hSw; (try dsimp only at hSw); go_simp; try with_reducible rfl)
      try simp only [Act.put, List.setIfInBounds_toArray, List.set_cons_zero, List.set_cons_succ]
      refine wpAnyH_take (i := 19) (oi := ⟨some 31, _, _, _, _, _⟩) (v := .bool false) rfl (by kernel_rfl) (by kernel_rfl) (by kernel_rfl) (fun _ _ _ h => h) (Or.inl ⟨by rfl, ?_⟩) (by assumption) ?_
      · (intro w hSw; (try dsimp only at hSw); go_simp; skip)
      try simp only [Act.put, List.setIfInBounds_toArray, List.set_cons_zero, List.set_cons_succ]
      refine wpAnyH_take (i := 20) (oi := ⟨some 32, _, _, _, _, _⟩) (v := ?_) rfl (by kernel_rfl) (by kernel_rfl) (by kernel_rfl) (fun _ _ _ h => h) (Or.inl ⟨by rfl, ?_⟩) (by assumption) ?_
      rotate_left
      · (intro w hSw; (try dsimp only at hSw); go_simp; try with_reducible rfl)
      try simp only [Act.put, List.setIfInBounds_toArray, List.set_cons_zero, List.set_cons_succ]
      refine wpAnyH_done (by kernel_rfl) ?_ _
      obtain ⟨⟨-, hBw⟩, -⟩ := hHeld
      have HB2 := hid (below_trans HB.out hBw)
      clear hBw x4 x5 y2 y3
      go_wp2_with fail
      go_roundw
      case rel => exact ⟨k + 1, by omega, by go_num, HB2.out⟩
      case measure => simp [intOf]; omega
    · have hk2 : (k : Int) = xs.length := by omega
      have q1 : ¬ (k : Int) < xs.length := by omega
      have q2 : (2 : Int) ≤ (xs.length : Int) := by omega
      have q3 : (xs.length : Int) ≤ 16 := by omega
      go_wp2_with fail
      go_ret
      exact ⟨rfl, HB.out⟩

end Go.Proofs.Ytdbjbkdcmhekfaa
