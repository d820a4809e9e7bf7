/- FnOutlines: corners. -/
import Derived.Test.YtdbjbkdcmhekfaaOutL
import Derived.Test.YtdbjbkdcmhekfaaInts
namespace Go.Proofs.Ytdbjbkdcmhekfaa
open Go.RowKit
set_option linter.unusedVariables false

/-- the joint of one arc and the next is smooth -/
def smAt (xs : List DArc) (i : Nat) : Bool := match xs[i]?, xs[nxK xs.length i]? with
  | some x, some y => smB x y
  | _, _ => true
theorem smAt_of {xs : List DArc} {i : Nat} {x y : DArc} (hx : xs[i]? = some x) (hy : xs[nxK xs.length i]? = some y) : smAt xs i = smB x y := by unfold smAt; rw [hx, hy]
def cornT (xs : List DArc) : Nat → List Int
  | 0 => []
  | k + 1 => if smAt xs k then cornT xs k else cornT xs k ++ [(k : Int)]
theorem cornT_len (xs : List DArc) : ∀ k, (cornT xs k).length ≤ k
  | 0 => Nat.le_refl _
  | k + 1 => by
    rw [cornT]
    have := cornT_len xs k
    split
    · omega
    · rw [List.length_append, List.length_singleton]; omega
theorem cornT_yes {xs : List DArc} {k : Nat} (h : smAt xs k = true) : cornT xs (k + 1) = cornT xs k := by rw [cornT, if_pos h]
theorem cornT_no {xs : List DArc} {k : Nat} (h : smAt xs k = false) : cornT xs (k + 1) = cornT xs k ++ [(k : Int)] := by rw [cornT, if_neg (by rw [h]; simp)]
def corners (xs : List DArc) : List Int := cornT xs xs.length
def iVO (l : List Int) : List Value := l.map (Value.int .i64)
def CornAt (w0 : World) (xs : List DArc) (k : Nat) (v : Value) (wr : World) : Prop := ∃ (Ac : Option Addr) (cc : Nat), v = .slice Ac (cornT xs k).length cc ∧ wr.ownsRow w0.heap.size 2 1 (.slice Ac (cornT xs k).length cc) (cornT xs k).length (iVO (cornT xs k)) ∧ Below w0.heap.size w0 wr

set_option maxHeartbeats 1600000 in
set_option maxRecDepth 100000 in
theorem CornersOf_ok (A : Option Addr) (c : Nat) (xs : List DArc) (w : World) (hA : RowsAt w 6 A (xs.map DArc.cells)) (hX : OutOk xs) :
    Calls Try.prog 50 #[.slice A xs.length c] w fun e w' => ∃ A' c', e = .returned (.tuple #[.slice A' (corners xs).length c', .int .i64 0]) ∧ w'.ownsRow w.heap.size 2 1 (.slice A' (corners xs).length c') (corners xs).length (iVO (corners xs)) ∧ Below w.heap.size w w' := by
  have HA := hid hA
  have HX := hid hX
  have hn2 := hX.n2
  have hn16 := hX.n16
  clear hA hX
  go_enter Try.func50, Try.ntmps50
  go_wp2_with fail
  refine (ValidOutline_ok A c xs _ HA.out HX.out).mono ?_
  rintro e w1 ⟨rfl, hb1⟩
  have HB1 := hid hb1
  clear hb1
  go_wp2_with fail
  go_loopw [4, 13] (fun v i wr => ∃ k : Nat, k ≤ xs.length ∧ i = .int .i64 (k : Int) ∧ CornAt w1 xs k v wr) (fun _ i _ => xs.length - (intOf i).toNat)
  case atStart => exact ⟨0, Nat.zero_le _, rfl, _, _, rfl, World.ownsRow_lit _ _ 0 (Nat.le_refl _) (by unfold maxLen; omega) rfl, below_alloc _ _⟩
  case round =>
    obtain ⟨k, hk, rfl, Ac, cc, rfl, hown, hbel⟩ := hrel
    have HO := hid hown
    have HB := hid hbel
    have hcl := cornT_len xs k
    clear hown hbel
    by_cases hkl : k < xs.length
    · obtain ⟨x, hx⟩ : ∃ x, xs[k]? = some x := ⟨_, List.getElem?_eq_getElem hkl⟩
      obtain ⟨y, hy⟩ : ∃ y, xs[nxK xs.length k]? = some y := ⟨_, List.getElem?_eq_getElem (nxK_lt (by omega))⟩
      have HXB := hid (HX.out.arcs x (List.mem_of_getElem? hx)).bd
      have HYB := hid (HX.out.arcs y (List.mem_of_getElem? hy)).bd
      have HY := hid hy
      have hAW := (HA.out.below HB1.out).below HB.out
      have HAW := hid (hAW.below (below_alloc wr (.cells #[.int .i64 x.cx, .int .i64 x.cy, .int .i64 x.fx, .int .i64 x.fy, .int .i64 x.tx, .int .i64 x.ty] 88)))
      obtain ⟨ab, ao, rfl, hAt⟩ := ArcAt.of_rows hAW hx
      obtain ⟨hl0, x0, x1, x2, x3, x4, x5⟩ := hAt
      obtain ⟨hl, z0, z1, z2, z3, z4, z5⟩ := ArcAt.new wr x 88
      obtain ⟨sv, hsv⟩ : ∃ s, smB x y = s := ⟨_, rfl⟩
      have HSM := hid ((smAt_of hx hy).trans hsv)
      have q0 : (0 : Int) ≤ (k : Int) := by omega
      have q1 : (k : Int) < xs.length := by omega
      clear hx hy hAW
      go_upto_region 7 with fail
      refine wp_region_held_drew (S := (fun w' => (True ∧ Below (wr.alloc (.cells #[.int .i64 x.cx, .int .i64 x.cy, .int .i64 x.fx, .int .i64 x.fy, .int .i64 x.tx, .int .i64 x.ty] 88)).heap.size (wr.alloc (.cells #[.int .i64 x.cx, .int .i64 x.cy, .int .i64 x.fx, .int .i64 x.fy, .int .i64 x.tx, .int .i64 x.ty] 88)) w') ∧ w'.cell? ⟨wr.heap.size, 0, none⟩ = some (.int .i64 x.cx) ∧ w'.cell? ⟨wr.heap.size, 1, none⟩ = some (.int .i64 x.cy) ∧ w'.cell? ⟨wr.heap.size, 2, none⟩ = some (.int .i64 x.fx) ∧ w'.cell? ⟨wr.heap.size, 3, none⟩ = some (.int .i64 x.fy) ∧ w'.cell? ⟨wr.heap.size, 4, none⟩ = some (.int .i64 x.tx) ∧ w'.cell? ⟨wr.heap.size, 5, none⟩ = some (.int .i64 x.ty))) (by kernel_rfl) ⟨⟨trivial, (Below.refl _ _).drew⟩, z0, z1, z2, z3, z4, z5⟩ (fun hHeld => ?_)
      refine wpAnyH_take (i := 0) (oi := ⟨some 18, _, _, _, _, _⟩) (v := ?_) rfl (by kernel_rfl) (by kernel_rfl) (by kernel_rfl) (fun _ _ _ h => h) (Or.inl ⟨by rfl, ?_⟩) (by assumption) ?_
      rotate_left
      · (intro w hSw; (try dsimp only at hSw); go_simp; try with_reducible rfl)
      try simp only [Act.put, List.setIfInBounds_toArray, List.set_cons_zero, List.set_cons_succ]
      refine wpAnyH_take (i := 1) (oi := ⟨some 19, _, _, _, _, _⟩) (v := ?_) rfl (by kernel_rfl) (by kernel_rfl) (by kernel_rfl) (fun _ _ _ h => h) (Or.inl ⟨by rfl, ?_⟩) (by assumption) ?_
      rotate_left
      · (intro w hSw; (try dsimp only at hSw); go_simp; try with_reducible rfl)
      try simp only [Act.put, List.setIfInBounds_toArray, List.set_cons_zero, List.set_cons_succ]
      refine wpAnyH_take (i := 2) (oi := ⟨some 20, _, _, _, _, _⟩) (v := ?_) rfl (by kernel_rfl) (by kernel_rfl) (by kernel_rfl) (fun _ _ _ h => h) (Or.inl ⟨by rfl, ?_⟩) (by assumption) ?_
      rotate_left
      · (intro w hSw; (try dsimp only at hSw); go_simp; try with_reducible rfl)
      try simp only [Act.put, List.setIfInBounds_toArray, List.set_cons_zero, List.set_cons_succ]
      refine wpAnyH_ready (rs := [3]) (by kernel_rfl) (by simp) ?_
      refine AllReadyH.cons (o := ⟨some 21, _, _, _, _, _⟩) rfl (fun K hK => ?_) AllReadyH.nil
      go_simp
      go_at_call 119; refine (outNext_ok _ c k xs y _ (HAW.out.below hHeld.1.2) hkl hn16 HY.out).mono ?_; rintro e w6 ⟨rfl, hb6⟩
      (try go_wp2_with fail)
      refine hK.out _ _ (keepM6 hl hl hl hl hl hl ‹_ ∧ _› hb6) (fun hHeld => ?_)
      clear hK K
      try simp only [Act.put, List.setIfInBounds_toArray, List.set_cons_zero, List.set_cons_succ]
      refine wpAnyH_ready (rs := [4]) (by kernel_rfl) (by simp) ?_
      refine AllReadyH.cons (o := ⟨some 22, _, _, _, _, _⟩) rfl (fun K hK => ?_) AllReadyH.nil
      go_simp
      go_at_call 118; refine (smooth_ok x y _ HXB.out HYB.out).mono ?_; rintro e w6 ⟨rfl, hb6⟩; rw [hsv]
      (try go_wp2_with fail)
      refine hK.out _ _ (keepM6 hl hl hl hl hl hl ‹_ ∧ _› hb6) (fun hHeld => ?_)
      clear hK K
      try simp only [Act.put, List.setIfInBounds_toArray, List.set_cons_zero, List.set_cons_succ]
      refine wpAnyH_take (i := 5) (oi := ⟨some 23, _, _, _, _, _⟩) (v := ?_) rfl (by kernel_rfl) (by kernel_rfl) (by kernel_rfl) (fun _ _ _ h => h) (Or.inl ⟨by rfl, ?_⟩) (by assumption) ?_
      rotate_left
      · (intro w hSw; (try dsimp only at hSw); go_simp; try with_reducible rfl)
      try simp only [Act.put, List.setIfInBounds_toArray, List.set_cons_zero, List.set_cons_succ]
      refine wpAnyH_done (by kernel_rfl) ?_ _
      obtain ⟨⟨-, hBw⟩, -⟩ := hHeld
      have O5 := hid (own_below HO.out (below_trans (below_alloc wr (.cells #[.int .i64 x.cx, .int .i64 x.cy, .int .i64 x.fx, .int .i64 x.fy, .int .i64 x.tx, .int .i64 x.ty] 88)) hBw))
      have B5 := hid (below_trans (below_trans HB.out (below_alloc wr (.cells #[.int .i64 x.cx, .int .i64 x.cy, .int .i64 x.fx, .int .i64 x.fy, .int .i64 x.tx, .int .i64 x.ty] 88))) hBw)
      clear hBw x0 x1 x2 x3 x4 x5 z0 z1 z2 z3 z4 z5
      cases sv
      · have HC := hid (cornT_no HSM.out)
        clear hsv
        go_wp2_with (at_builtin; refine wpList_app (w0 := w1) rfl (.tmp 24) (.tmp 26) 24 rfl w1.heap.size 2 (.int .i64 0) 1 8 Try.underlying24 infoI rfl (by decide) _ _ _ rfl O5.out #[.int .i64 (k : Int)] 1 1 rfl rfl (by simp [Value.oneCell']) (by omega) B5.out.size B5.out ?_; intro v1 w6 hown1 hbel1 hz1 _; obtain ⟨g6, c6, rfl, hf6⟩ := own_form hown1 (by omega))
        go_roundw
        case rel => exact ⟨k + 1, by omega, by go_num, some ⟨g6, 0, none⟩, c6, by rw [HC.out, List.length_append]; rfl, by rw [HC.out, List.length_append]; unfold iVO; rw [List.map_append]; exact hown1, hbel1⟩
        case measure => simp [intOf]; omega
      · have HC := hid (cornT_yes HSM.out)
        clear hsv
        go_wp2_with fail
        go_roundw
        case rel => exact ⟨k + 1, by omega, by go_num, Ac, cc, by rw [HC.out], by rw [HC.out]; exact O5.out, B5.out⟩
        case measure => simp [intOf]; omega
    · have hk2 : k = xs.length := by omega
      subst hk2
      have q1 : ¬ (xs.length : Int) < xs.length := by omega
      go_wp2_with fail
      go_ret2
      exact ⟨Ac, cc, rfl, own_mono HO.out HB1.out.size, below_trans HB1.out HB.out⟩

set_option maxHeartbeats 1600000 in
set_option maxRecDepth 100000 in
theorem l05Corners_ok (A : Option Addr) (c : Nat) (xs : List DArc) (w : World) (hA : RowsAt w 6 A (xs.map DArc.cells)) (hX : OutOk xs) :
    Calls Try.prog 124 #[.slice A xs.length c] w fun e w' => ∃ A' c', e = .returned (.slice A' (corners xs).length c') ∧ w'.ownsRow w.heap.size 2 1 (.slice A' (corners xs).length c') (corners xs).length (iVO (corners xs)) ∧ Below w.heap.size w w' := by
  have HA := hid hA
  have HX := hid hX
  have hn2 := hX.n2
  have hn16 := hX.n16
  clear hA hX
  go_enter Try.func124, Try.ntmps124
  go_wp2_with fail
  go_loopw [3, 5] (fun v i wr => ∃ k : Nat, k ≤ xs.length ∧ i = .int .i64 (k : Int) ∧ CornAt w xs k v wr) (fun _ i _ => xs.length - (intOf i).toNat)
  case atStart => exact ⟨0, Nat.zero_le _, rfl, _, _, rfl, World.ownsRow_lit _ _ 0 (Nat.le_refl _) (by unfold maxLen; omega) rfl, below_alloc _ _⟩
  case round =>
    obtain ⟨k, hk, rfl, Ac, cc, rfl, hown, hbel⟩ := hrel
    have HO := hid hown
    have HB := hid hbel
    have hcl := cornT_len xs k
    clear hown hbel
    by_cases hkl : k < xs.length
    · obtain ⟨x, hx⟩ : ∃ x, xs[k]? = some x := ⟨_, List.getElem?_eq_getElem hkl⟩
      obtain ⟨y, hy⟩ : ∃ y, xs[nxK xs.length k]? = some y := ⟨_, List.getElem?_eq_getElem (nxK_lt (by omega))⟩
      have HXB := hid (HX.out.arcs x (List.mem_of_getElem? hx)).bd
      have HYB := hid (HX.out.arcs y (List.mem_of_getElem? hy)).bd
      have hAW := HA.out.below HB.out
      obtain ⟨ab, ao, rfl, hAt⟩ := ArcAt.of_rows hAW hx
      obtain ⟨ab2, ao2, hae, hAt2⟩ := ArcAt.of_rows hAW hy
      injection hae with hae
      injection hae with ha1 ha2
      subst ha1 ha2
      have HAT := hid hAt
      obtain ⟨hl0, x0, x1, x2, x3, x4, x5⟩ := hAt
      have hj := nxK_lt (n := xs.length) (k := k) (by omega)
      have hje := nxK_mod xs.length k
      obtain ⟨sv, hsv⟩ : ∃ s, smB x y = s := ⟨_, rfl⟩
      have HSM := hid ((smAt_of hx hy).trans hsv)
      obtain ⟨j, hj0⟩ : ∃ j, nxK xs.length k = j := ⟨_, rfl⟩
      rw [hj0] at hj hje hAt2
      have HAT2 := hid hAt2
      have i0 : (0 : Int) ≤ (j : Int) := by omega
      have i1 : (j : Int) < xs.length := by omega
      have i2 : ¬ (xs.length : Int) = 0 := by omega
      have i3 : ¬ xs.length = 0 := by omega
      have vk : IntKind.i64.wrap ((k : Int) + 1) = (k : Int) + 1 := IntWalk.i64_in _ (by omega)
      have q0 : (0 : Int) ≤ (k : Int) := by omega
      have q1 : (k : Int) < xs.length := by omega
      clear hx hy hAW hj0 hAt2 x2 x3 x4 x5
      go_upto_region 6 with fail
      refine wp_region_held_drew (S := (fun w' => (True ∧ Below wr.heap.size wr w') ∧ w'.cell? ⟨ab, ao + k * 6, none⟩ = some (.int .i64 x.cx) ∧ w'.cell? ⟨ab, ao + k * 6 + 1, none⟩ = some (.int .i64 x.cy))) (by kernel_rfl) ⟨⟨trivial, (Below.refl _ _).drew⟩, x0, x1⟩ (fun hHeld => ?_)
      refine wpAnyH_take (i := 0) (oi := ⟨some 14, _, _, _, _, _⟩) (v := ?_) rfl (by kernel_rfl) (by kernel_rfl) (by kernel_rfl) (fun _ _ _ h => h) (Or.inl ⟨by rfl, ?_⟩) (by assumption) ?_
      rotate_left
      · (intro w hSw; (try dsimp only at hSw); go_simp; try with_reducible rfl)
      try simp only [Act.put, List.setIfInBounds_toArray, List.set_cons_zero, List.set_cons_succ]
      refine wpAnyH_take (i := 1) (oi := ⟨some 15, _, _, _, _, _⟩) (v := ?_) rfl (by kernel_rfl) (by kernel_rfl) (by kernel_rfl) (fun _ _ _ h => h) (Or.inl ⟨by rfl, ?_⟩) (by assumption) ?_
      rotate_left
      · (intro w hSw; (try dsimp only at hSw); go_simp; try with_reducible rfl)
      try simp only [Act.put, List.setIfInBounds_toArray, List.set_cons_zero, List.set_cons_succ]
      refine wpAnyH_take (i := 2) (oi := ⟨some 16, _, _, _, _, _⟩) (v := ?_) rfl (by kernel_rfl) (by kernel_rfl) (by kernel_rfl) (fun _ _ _ h => h) (Or.inl ⟨by rfl, ?_⟩) (by assumption) ?_
      rotate_left
      · (intro w hSw; (try dsimp only at hSw); go_simp; try with_reducible rfl)
      try simp only [Act.put, List.setIfInBounds_toArray, List.set_cons_zero, List.set_cons_succ]
      refine wpAnyH_take (i := 3) (oi := ⟨some 17, _, _, _, _, _⟩) (v := ?_) rfl (by kernel_rfl) (by kernel_rfl) (by kernel_rfl) (fun _ _ _ h => h) (Or.inl ⟨by rfl, ?_⟩) (by assumption) ?_
      rotate_left
      · (intro w hSw; (try dsimp only at hSw); go_simp; try with_reducible rfl)
      try simp only [Act.put, List.setIfInBounds_toArray, List.set_cons_zero, List.set_cons_succ]
      refine wpAnyH_take (i := 4) (oi := ⟨some 18, _, _, _, _, _⟩) (v := ?_) rfl (by kernel_rfl) (by kernel_rfl) (by kernel_rfl) (fun _ _ _ h => h) (Or.inl ⟨by rfl, ?_⟩) (by assumption) ?_
      rotate_left
      · (intro w hSw; (try dsimp only at hSw); go_simp; try with_reducible rfl)
      try simp only [Act.put, List.setIfInBounds_toArray, List.set_cons_zero, List.set_cons_succ]
      refine wpAnyH_take (i := 5) (oi := ⟨some 19, _, _, _, _, _⟩) (v := ?_) rfl (by kernel_rfl) (by kernel_rfl) (by kernel_rfl) (fun _ _ _ h => h) (Or.inl ⟨by rfl, ?_⟩) (by assumption) ?_
      rotate_left
      · (intro w hSw; (try dsimp only at hSw); go_simp; try with_reducible rfl)
      try simp only [Act.put, List.setIfInBounds_toArray, List.set_cons_zero, List.set_cons_succ]
      refine wpAnyH_take (i := 6) (oi := ⟨some 20, _, _, _, _, _⟩) (v := ?_) rfl (by kernel_rfl) (by kernel_rfl) (by kernel_rfl) (fun _ _ _ h => h) (Or.inl ⟨by rfl, ?_⟩) (by assumption) ?_
      rotate_left
      · (intro w hSw; (try dsimp only at hSw); go_simp; try with_reducible rfl)
      try simp only [Act.put, List.setIfInBounds_toArray, List.set_cons_zero, List.set_cons_succ]
      refine wpAnyH_take (i := 7) (oi := ⟨some 21, _, _, _, _, _⟩) (v := ?_) rfl (by kernel_rfl) (by kernel_rfl) (by kernel_rfl) (fun _ _ _ h => h) (Or.inl ⟨by rfl, ?_⟩) (by assumption) ?_
      rotate_left
      · (intro w hSw; (try dsimp only at hSw); go_simp; try with_reducible rfl)
      try simp only [Act.put, List.setIfInBounds_toArray, List.set_cons_zero, List.set_cons_succ]
      refine wpAnyH_take (i := 8) (oi := ⟨some 22, _, _, _, _, _⟩) (v := ?_) rfl (by kernel_rfl) (by kernel_rfl) (by kernel_rfl) (fun _ _ _ h => h) (Or.inl ⟨by rfl, ?_⟩) (by assumption) ?_
      rotate_left
      · (intro w hSw; (try dsimp only at hSw); go_simp; try with_reducible rfl)
      try simp only [Act.put, List.setIfInBounds_toArray, List.set_cons_zero, List.set_cons_succ]
      refine wpAnyH_ready (rs := [9]) (by kernel_rfl) (by simp) ?_
      refine AllReadyH.cons (o := ⟨some 23, _, _, _, _, _⟩) rfl (fun K hK => ?_) AllReadyH.nil
      go_simp
      go_at_call 165; refine (l05Smooth_ok ab (ao + k * 6) ab (ao + j * 6) x y _ (HAT.out.below hHeld.1.2) (HAT2.out.below hHeld.1.2) HXB.out HYB.out).mono ?_; rintro e w6 ⟨rfl, hb6⟩; rw [hsv]
      (try go_wp2_with fail)
      refine hK.out _ _ (keepM2 hl0 hl0 ‹_ ∧ _› hb6) (fun hHeld => ?_)
      clear hK K
      try simp only [Act.put, List.setIfInBounds_toArray, List.set_cons_zero, List.set_cons_succ]
      refine wpAnyH_take (i := 10) (oi := ⟨some 24, _, _, _, _, _⟩) (v := ?_) rfl (by kernel_rfl) (by kernel_rfl) (by kernel_rfl) (fun _ _ _ h => h) (Or.inl ⟨by rfl, ?_⟩) (by assumption) ?_
      rotate_left
      · (intro w hSw; (try dsimp only at hSw); go_simp; try with_reducible rfl)
      try simp only [Act.put, List.setIfInBounds_toArray, List.set_cons_zero, List.set_cons_succ]
      refine wpAnyH_done (by kernel_rfl) ?_ _
      obtain ⟨⟨-, hBw⟩, -⟩ := hHeld
      have O5 := hid (own_below HO.out hBw)
      have B5 := hid (below_trans HB.out hBw)
      clear hBw x0 x1
      cases sv
      · have HC := hid (cornT_no HSM.out)
        clear hsv
        go_wp2_with (at_builtin; refine wpList_app (w0 := w) rfl (.tmp 25) (.tmp 27) 24 rfl w.heap.size 2 (.int .i64 0) 1 8 Try.underlying24 infoI rfl (by decide) _ _ _ rfl O5.out #[.int .i64 (k : Int)] 1 1 rfl rfl (by simp [Value.oneCell']) (by omega) B5.out.size B5.out ?_; intro v1 w6 hown1 hbel1 hz1 _; obtain ⟨g6, c6, rfl, hf6⟩ := own_form hown1 (by omega))
        go_roundw
        case rel => exact ⟨k + 1, by omega, by go_num, some ⟨g6, 0, none⟩, c6, by rw [HC.out, List.length_append]; rfl, by rw [HC.out, List.length_append]; unfold iVO; rw [List.map_append]; exact hown1, hbel1⟩
        case measure => simp [intOf]; omega
      · have HC := hid (cornT_yes HSM.out)
        clear hsv
        go_wp2_with fail
        go_roundw
        case rel => exact ⟨k + 1, by omega, by go_num, Ac, cc, by rw [HC.out], by rw [HC.out]; exact O5.out, B5.out⟩
        case measure => simp [intOf]; omega
    · have hk2 : k = xs.length := by omega
      subst hk2
      have q1 : ¬ (xs.length : Int) < xs.length := by omega
      go_wp2_with fail
      go_ret
      exact ⟨Ac, cc, rfl, HO.out, HB.out⟩

end Go.Proofs.Ytdbjbkdcmhekfaa
