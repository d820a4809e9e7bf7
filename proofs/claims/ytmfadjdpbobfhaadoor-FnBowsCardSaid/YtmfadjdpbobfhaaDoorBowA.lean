/- FnBows: bows tested and weighed. -/
import Derived.Test.YtmfadjdpbobfhaaDoorBowM
import Derived.Test.YtmfadjdpbobfhaaDoorRowsArg
import Derived.Test.YtmfadjdpbobfhaaDoorKeepM
import Derived.Test.YtmfadjdpbobfhaaDoorDivR
import Derived.Test.YtmfadjdpbobfhaaDoorPart
import Derived.Deep.QuietTactic
namespace Go.Proofs.YtmfadjdpbobfhaaDoor
open Go.RowKit
set_option linter.unusedVariables false

/-- a part in memory -/
structure PartAt (w : World) (b o : Nat) (x : DPart) : Prop where
  lt : b < w.heap.size
  c0 : w.cell? ⟨b, o, none⟩ = some (.string x.fId)
  c1 : w.cell? ⟨b, o + 1, none⟩ = some (.int .i64 x.fAt)
  c2 : w.cell? ⟨b, o + 2, none⟩ = some (.int .i64 x.fMass)
theorem PartAt.below {w w' : World} {b o : Nat} {x : DPart} (h : PartAt w b o x) (hb : Below w.heap.size w w') : PartAt w' b o x := by
  obtain ⟨h1, h2, h3, h4⟩ := h
  exact ⟨Nat.lt_of_lt_of_le h1 hb.size, (hb.cell (p := ⟨b, o, none⟩) h1).trans h2, (hb.cell (p := ⟨b, o + 1, none⟩) h1).trans h3, (hb.cell (p := ⟨b, o + 2, none⟩) h1).trans h4⟩
theorem PartAt.new (w : World) (x : DPart) (T : TypeId) : PartAt (w.alloc (.cells #[.string x.fId, .int .i64 x.fAt, .int .i64 x.fMass] T)) w.heap.size 0 x := by
  have h := World.ownsRow_lit (e := T) (size := 3) (base := w.heap.size) w #[.string x.fId, .int .i64 x.fAt, .int .i64 x.fMass] 1 (Nat.le_refl _) (by unfold maxLen; omega) rfl
  exact ⟨by simp, h.cellAt 0 (by omega), h.cellAt 1 (by omega), h.cellAt 2 (by omega)⟩
theorem PartAt.of_rows {w : World} {A : Option Addr} {xs : List DPart} {k : Nat} {x : DPart} (hA : RowsAt w 3 A (xs.map DPart.cells)) (hx : xs[k]? = some x) : ∃ b o, A = some ⟨b, o, none⟩ ∧ PartAt w b (o + k * 3) x := by
  obtain ⟨b, o, he, hlt, hc⟩ := hA (by intro e; rw [List.map_eq_nil_iff] at e; rw [e] at hx; cases hx)
  have hci : (xs.map DPart.cells)[k]? = some x.cells := by rw [List.getElem?_map, hx]; rfl
  exact ⟨b, o, he, hlt, hc k _ hci 0 _ rfl, hc k _ hci 1 _ rfl, hc k _ hci 2 _ rfl⟩
theorem drwB_n {xs : List DPart} {n : Nat} (h : DrwB xs) (hn : xs.length = n) : 1 ≤ n ∧ n ≤ 6 := by
  subst hn
  exact ⟨h.n1, h.n6⟩
theorem massL_n {xs : List DPart} {n : Nat} (hn : xs.length = n) : massL xs = sumB massP xs n := by subst hn; rfl
theorem momL_n {xs : List DPart} {n : Nat} (hn : xs.length = n) : momL xs = sumB momP xs n := by subst hn; rfl

set_option maxHeartbeats 1600000 in
set_option maxRecDepth 100000 in
theorem ValidBow_ok (A : Option Addr) (c n : Nat) (xs : List DPart) (w : World) (hA : RowsAt w 3 A (xs.map DPart.cells)) (hX : DrwB xs) (hn : xs.length = n) :
    Calls Tryd.prog 38 #[.slice A n c] w fun e w' => e = .returned (.bool true) ∧ Below w.heap.size w w' := by
  have HA := hid hA
  have HX := hid hX
  have HN := hid hn
  obtain ⟨n1, n6⟩ := drwB_n hX hn
  clear hA hX hn
  go_enter Tryd.func38, Tryd.ntmps38
  go_wp2_with fail
  go_loopw [7] (fun i wr => ∃ k : Nat, k ≤ n ∧ i = .int .i64 (k : Int) ∧ Below w.heap.size w wr) (fun i _ => n - (intOf i).toNat)
  case atStart => exact ⟨0, Nat.zero_le _, rfl, Below.refl _ _⟩
  case round =>
    obtain ⟨k, hk, rfl, hbel⟩ := hrel
    have HB := hid hbel
    clear hbel
    by_cases hkl : k < n
    · obtain ⟨x, hx⟩ : ∃ x, xs[k]? = some x := ⟨_, List.getElem?_eq_getElem (by rw [HN.out]; exact hkl)⟩
      have HXK := hid hx
      have HXS := hid (HX.out.one x (List.mem_of_getElem? hx))
      obtain ⟨ab, ao, rfl, hAt⟩ := PartAt.of_rows (HA.out.below HB.out) hx
      obtain ⟨hl0, x0, x1, x2⟩ := hAt
      have q0 : (0 : Int) ≤ (k : Int) := by omega
      have q1 : (k : Int) < n := by omega
      clear hx
      go_upto_region 4 with fail
      clear x0 x1 x2
      have hyn := PartAt.new wr x 39
      have hbn := below_alloc wr (.cells #[.string x.fId, .int .i64 x.fAt, .int .i64 x.fMass] 39)
      have HA1 := hid ((HA.out.below HB.out).below hbn)
      obtain ⟨W, hW⟩ : ∃ W, W = wr.alloc (.cells #[.string x.fId, .int .i64 x.fAt, .int .i64 x.fMass] 39) := ⟨_, rfl⟩
      rw [← hW]
      rw [← hW] at hyn hbn HA1
      obtain ⟨nb, hnb⟩ : ∃ nb, nb = wr.heap.size := ⟨_, rfl⟩
      rw [← hnb]
      rw [← hnb] at hyn
      have YY := hid hyn
      have BB := hid (below_trans HB.out hbn)
      clear hyn hbn hW hnb
      rcases Nat.lt_or_ge 0 k with hk0 | hk0
      · obtain ⟨j, hj⟩ : ∃ j, k = j + 1 := ⟨k - 1, by omega⟩
        obtain ⟨y, hy⟩ : ∃ y, xs[j]? = some y := ⟨_, List.getElem?_eq_getElem (by rw [HN.out]; omega)⟩
        obtain ⟨ab2, ao2, hae, hAt⟩ := PartAt.of_rows HA1.out hy
        injection hae with hae
        injection hae with ha1 ha2
        subst ha1 ha2
        have HP := hid hAt
        have hup := HX.out.up j k y x hy HXK.out (by omega)
        have vk : IntKind.i64.wrap ((k : Int) - 1) = (j : Int) := (IntWalk.i64_in _ (by omega)).trans (by omega)
        have j0 : (0 : Int) ≤ (j : Int) := by omega
        have j1 : (j : Int) < n := by omega
        have e0 : decide (0 < k) = true := by simpa using hk0
        clear hj hy hAt
        have HS : ∀ wb, Below W.heap.size W wb → ((fun w' => (True ∧ Below W.heap.size W w') ∧ w'.cell? ⟨nb, 0, none⟩ = some (.string x.fId) ∧ w'.cell? ⟨nb, 1, none⟩ = some (.int .i64 x.fAt) ∧ w'.cell? ⟨nb, 2, none⟩ = some (.int .i64 x.fMass) ∧ w'.cell? ⟨ab, ao + j * 3, none⟩ = some (.string y.fId))) wb := fun wb hb => by
          obtain ⟨-, k0, k1, k2⟩ := YY.out.below hb
          exact ⟨⟨trivial, hb⟩, k0, k1, k2, (HP.out.below hb).c0⟩
        refine wp_region_held_drew (S := (fun w' => (True ∧ Below W.heap.size W w') ∧ w'.cell? ⟨nb, 0, none⟩ = some (.string x.fId) ∧ w'.cell? ⟨nb, 1, none⟩ = some (.int .i64 x.fAt) ∧ w'.cell? ⟨nb, 2, none⟩ = some (.int .i64 x.fMass) ∧ w'.cell? ⟨ab, ao + j * 3, none⟩ = some (.string y.fId))) (by kernel_rfl) (HS _ (Below.refl _ _).drew) (fun hHeld => ?_)
        refine wpAnyH_take (i := 0) (oi := ⟨some 12, _, _, _, _, _⟩) (v := ?_) rfl (by kernel_rfl) (by kernel_rfl) (by kernel_rfl) (fun _ _ _ h => h) (Or.inl ⟨by rfl, ?_⟩) (by assumption) ?_
        rotate_left
        · (intro w hSw; (try dsimp only at hSw); go_simp; try with_reducible rfl)
        try simp only [Act.put, List.setIfInBounds_toArray, List.set_cons_zero, List.set_cons_succ]
        refine wpAnyH_ready (rs := [1]) (by kernel_rfl) (by simp) ?_
        refine AllReadyH.cons (o := ⟨some 13, _, _, _, _, _⟩) rfl (fun K hK => ?_) AllReadyH.nil
        go_simp
        go_at_call 87; refine (partValid_ok x.fId x.fAt x.fMass _ (by have := HXS.out.size; unfold maxLen; omega)).mono ?_; rintro e w6 ⟨rfl, hb6⟩; rw [HXS.out.valid]
        (try go_wp2_with fail)
        refine hK.out _ _ (HS _ (below_trans hHeld.1.2 hb6)) (fun hHeld => ?_)
        clear hK K
        try simp only [Act.put, List.setIfInBounds_toArray, List.set_cons_zero, List.set_cons_succ]
        refine wpAnyH_take (i := 2) (oi := ⟨some 14, _, _, _, _, _⟩) (v := ?_) rfl (by kernel_rfl) (by kernel_rfl) (by kernel_rfl) (fun _ _ _ h => h) (Or.inl ⟨by rfl, ?_⟩) (by assumption) ?_
        rotate_left
        · (intro w hSw; (try dsimp only at hSw); go_simp; try with_reducible rfl)
        try simp only [Act.put, List.setIfInBounds_toArray, List.set_cons_zero, List.set_cons_succ]
        refine wpAnyH_take (i := 3) (oi := ⟨some 15, _, _, _, _, _⟩) (v := ?_) rfl (by kernel_rfl) (by kernel_rfl) (by kernel_rfl) (fun _ _ _ h => h) (Or.inl ⟨by rfl, ?_⟩) (by assumption) ?_
        rotate_left
        · (intro w hSw; (try dsimp only at hSw); go_simp; try with_reducible rfl)
        try simp only [Act.put, List.setIfInBounds_toArray, List.set_cons_zero, List.set_cons_succ]
        refine wpAnyH_take (i := 4) (oi := ⟨some 16, _, _, _, _, _⟩) (v := ?_) rfl (by kernel_rfl) (by kernel_rfl) (by kernel_rfl) (fun _ _ _ h => h) (Or.inl ⟨by rfl, ?_⟩) (by assumption) ?_
        rotate_left
        · (intro w hSw; (try dsimp only at hSw); go_simp; try with_reducible rfl)
        try simp only [Act.put, List.setIfInBounds_toArray, List.set_cons_zero, List.set_cons_succ]
        refine wpAnyH_take (i := 5) (oi := ⟨some 17, _, _, _, _, _⟩) (v := ?_) rfl (by kernel_rfl) (by kernel_rfl) (by kernel_rfl) (fun _ _ _ h => h) (Or.inl ⟨by rfl, ?_⟩) (by assumption) ?_
        rotate_left
        · (intro w hSw; (try dsimp only at hSw); go_simp; try with_reducible rfl)
        try simp only [Act.put, List.setIfInBounds_toArray, List.set_cons_zero, List.set_cons_succ]
        refine wpAnyH_take (i := 6) (oi := ⟨some 18, _, _, _, _, _⟩) (v := ?_) rfl (by kernel_rfl) (by kernel_rfl) (by kernel_rfl) (fun _ _ _ h => h) (Or.inl ⟨by rfl, ?_⟩) (by assumption) ?_
        rotate_left
        · (intro w hSw; (try dsimp only at hSw); go_simp; try with_reducible rfl)
        try simp only [Act.put, List.setIfInBounds_toArray, List.set_cons_zero, List.set_cons_succ]
        refine wpAnyH_take (i := 7) (oi := ⟨some 19, _, _, _, _, _⟩) (v := ?_) rfl (by kernel_rfl) (by kernel_rfl) (by kernel_rfl) (fun _ _ _ h => h) (Or.inl ⟨by rfl, ?_⟩) (by assumption) ?_
        rotate_left
        · (intro w hSw; (try dsimp only at hSw); go_simp; try with_reducible rfl)
        try simp only [Act.put, List.setIfInBounds_toArray, List.set_cons_zero, List.set_cons_succ]
        refine wpAnyH_take (i := 8) (oi := ⟨some 20, _, _, _, _, _⟩) (v := ?_) rfl (by kernel_rfl) (by kernel_rfl) (by kernel_rfl) (fun _ _ _ h => h) (Or.inl ⟨by rfl, ?_⟩) (by assumption) ?_
        rotate_left
        · (intro w hSw; (try dsimp only at hSw); go_simp; try with_reducible rfl)
        try simp only [Act.put, List.setIfInBounds_toArray, List.set_cons_zero, List.set_cons_succ]
        refine wpAnyH_take (i := 9) (oi := ⟨some 21, _, _, _, _, _⟩) (v := ?_) rfl (by kernel_rfl) (by kernel_rfl) (by kernel_rfl) (fun _ _ _ h => h) (Or.inl ⟨by rfl, ?_⟩) (by assumption) ?_
        rotate_left
        · (intro w hSw; (try dsimp only at hSw); go_simp; try with_reducible rfl)
        try simp only [Act.put, List.setIfInBounds_toArray, List.set_cons_zero, List.set_cons_succ]
        refine wpAnyH_take (i := 10) (oi := ⟨some 22, _, _, _, _, _⟩) (v := ?_) rfl (by kernel_rfl) (by kernel_rfl) (by kernel_rfl) (fun _ _ _ h => h) (Or.inl ⟨by rfl, ?_⟩) (by assumption) ?_
        rotate_left
        · (intro w hSw; (try dsimp only at hSw); go_simp; try with_reducible rfl)
        try simp only [Act.put, List.setIfInBounds_toArray, List.set_cons_zero, List.set_cons_succ]
        refine wpAnyH_take (i := 11) (oi := ⟨some 23, _, _, _, _, _⟩) (v := ?_) rfl (by kernel_rfl) (by kernel_rfl) (by kernel_rfl) (fun _ _ _ h => h) (Or.inl ⟨by rfl, ?_⟩) (by assumption) ?_
        rotate_left
        · (intro w hSw; (try dsimp only at hSw); go_simp; try with_reducible rfl)
        try simp only [Act.put, List.setIfInBounds_toArray, List.set_cons_zero, List.set_cons_succ]
        refine wpAnyH_take (i := 12) (oi := ⟨some 24, _, _, _, _, _⟩) (v := ?_) rfl (by kernel_rfl) (by kernel_rfl) (by kernel_rfl) (fun _ _ _ h => h) (Or.inl ⟨by rfl, ?_⟩) (by assumption) ?_
        rotate_left
        · (intro w hSw; (try dsimp only at hSw); go_simp; try with_reducible rfl)
        try simp only [Act.put, List.setIfInBounds_toArray, List.set_cons_zero, List.set_cons_succ]
        refine wpAnyH_take (i := 13) (oi := ⟨some 25, _, _, _, _, _⟩) (v := ?_) rfl (by kernel_rfl) (by kernel_rfl) (by kernel_rfl) (fun _ _ _ h => h) (Or.inl ⟨by rfl, ?_⟩) (by assumption) ?_
        rotate_left
        · (intro w hSw; (try dsimp only at hSw); go_simp; try with_reducible rfl)
        try simp only [Act.put, List.setIfInBounds_toArray, List.set_cons_zero, List.set_cons_succ]
        refine wpAnyH_take (i := 14) (oi := ⟨some 26, _, _, _, _, _⟩) (v := ?_) rfl (by kernel_rfl) (by kernel_rfl) (by kernel_rfl) (fun _ _ _ h => h) (Or.inl ⟨by rfl, ?_⟩) (by assumption) ?_
        rotate_left
        · (intro w hSw; (try dsimp only at hSw); go_simp; try with_reducible rfl)
        try simp only [Act.put, List.setIfInBounds_toArray, List.set_cons_zero, List.set_cons_succ]
        refine wpAnyH_take (i := 15) (oi := ⟨some 27, _, _, _, _, _⟩) (v := ?_) rfl (by kernel_rfl) (by kernel_rfl) (by kernel_rfl) (fun _ _ _ h => h) (Or.inl ⟨by rfl, ?_⟩) (by assumption) ?_
        rotate_left
        · (intro w hSw; (try dsimp only at hSw); go_simp; try with_reducible rfl)
        try simp only [Act.put, List.setIfInBounds_toArray, List.set_cons_zero, List.set_cons_succ]
        refine wpAnyH_take (i := 16) (oi := ⟨some 28, _, _, _, _, _⟩) (v := ?_) rfl (by kernel_rfl) (by kernel_rfl) (by kernel_rfl) (fun _ _ _ h => h) (Or.inl ⟨by rfl, ?_⟩) (by assumption) ?_
        rotate_left
        · (intro w hSw; (try dsimp only at hSw); go_simp; try with_reducible rfl)
        try simp only [Act.put, List.setIfInBounds_toArray, List.set_cons_zero, List.set_cons_succ]
        refine wpAnyH_take (i := 17) (oi := ⟨some 29, _, _, _, _, _⟩) (v := ?_) rfl (by kernel_rfl) (by kernel_rfl) (by kernel_rfl) (fun _ _ _ h => h) (Or.inl ⟨by rfl, ?_⟩) (by assumption) ?_
        rotate_left
        · (intro w hSw; (try dsimp only at hSw); go_simp; try with_reducible rfl)
        try simp only [Act.put, List.setIfInBounds_toArray, List.set_cons_zero, List.set_cons_succ]
        refine wpAnyH_done (by kernel_rfl) ?_ _
        obtain ⟨⟨-, hb⟩, -⟩ := hHeld
        replace BB := hid (below_trans BB.out hb)
        clear hb HS
        go_wp2_with fail
        go_roundw
        case rel => exact ⟨k + 1, by omega, by go_num, BB.out⟩
        case measure => simp [intOf]; omega
      · have e0 : decide (0 < k) = false := by simp; omega
        have e1 : ¬ (0 : Int) < (k : Int) := by omega
        have HS : ∀ wb, Below W.heap.size W wb → ((fun w' => (True ∧ Below W.heap.size W w') ∧ w'.cell? ⟨nb, 0, none⟩ = some (.string x.fId) ∧ w'.cell? ⟨nb, 1, none⟩ = some (.int .i64 x.fAt) ∧ w'.cell? ⟨nb, 2, none⟩ = some (.int .i64 x.fMass))) wb := fun wb hb => by
          obtain ⟨-, k0, k1, k2⟩ := YY.out.below hb
          exact ⟨⟨trivial, hb⟩, k0, k1, k2⟩
        refine wp_region_held_drew (S := (fun w' => (True ∧ Below W.heap.size W w') ∧ w'.cell? ⟨nb, 0, none⟩ = some (.string x.fId) ∧ w'.cell? ⟨nb, 1, none⟩ = some (.int .i64 x.fAt) ∧ w'.cell? ⟨nb, 2, none⟩ = some (.int .i64 x.fMass))) (by kernel_rfl) (HS _ (Below.refl _ _).drew) (fun hHeld => ?_)
        refine wpAnyH_take (i := 0) (oi := ⟨some 12, _, _, _, _, _⟩) (v := ?_) rfl (by kernel_rfl) (by kernel_rfl) (by kernel_rfl) (fun _ _ _ h => h) (Or.inl ⟨by rfl, ?_⟩) (by assumption) ?_
        rotate_left
        · (intro w hSw; (try dsimp only at hSw); go_simp; try with_reducible rfl)
        try simp only [Act.put, List.setIfInBounds_toArray, List.set_cons_zero, List.set_cons_succ]
        refine wpAnyH_ready (rs := [1]) (by kernel_rfl) (by simp) ?_
        refine AllReadyH.cons (o := ⟨some 13, _, _, _, _, _⟩) rfl (fun K hK => ?_) AllReadyH.nil
        go_simp
        go_at_call 87; refine (partValid_ok x.fId x.fAt x.fMass _ (by have := HXS.out.size; unfold maxLen; omega)).mono ?_; rintro e w6 ⟨rfl, hb6⟩; rw [HXS.out.valid]
        (try go_wp2_with fail)
        refine hK.out _ _ (HS _ (below_trans hHeld.1.2 hb6)) (fun hHeld => ?_)
        clear hK K
        try simp only [Act.put, List.setIfInBounds_toArray, List.set_cons_zero, List.set_cons_succ]
        refine wpAnyH_take (i := 2) (oi := ⟨some 14, _, _, _, _, _⟩) (v := ?_) rfl (by kernel_rfl) (by kernel_rfl) (by kernel_rfl) (fun _ _ _ h => h) (Or.inl ⟨by rfl, ?_⟩) (by assumption) ?_
        rotate_left
        · (intro w hSw; (try dsimp only at hSw); go_simp; try with_reducible rfl)
        try simp only [Act.put, List.setIfInBounds_toArray, List.set_cons_zero, List.set_cons_succ]
        refine wpAnyH_take (i := 3) (oi := ⟨some 15, _, _, _, _, _⟩) (v := ?_) rfl (by kernel_rfl) (by kernel_rfl) (by kernel_rfl) (fun _ _ _ h => h) (Or.inl ⟨by rfl, ?_⟩) (by assumption) ?_
        rotate_left
        · (intro w hSw; (try dsimp only at hSw); go_simp; try with_reducible rfl)
        try simp only [Act.put, List.setIfInBounds_toArray, List.set_cons_zero, List.set_cons_succ]
        refine wpAnyH_take (i := 4) (oi := ⟨some 16, _, _, _, _, _⟩) (v := ?_) rfl (by kernel_rfl) (by kernel_rfl) (by kernel_rfl) (fun _ _ _ h => h) (Or.inl ⟨by rfl, ?_⟩) (by assumption) ?_
        rotate_left
        · (intro w hSw; (try dsimp only at hSw); go_simp; try with_reducible rfl)
        try simp only [Act.put, List.setIfInBounds_toArray, List.set_cons_zero, List.set_cons_succ]
        refine wpAnyH_take (i := 5) (oi := ⟨some 17, _, _, _, _, _⟩) (v := ?_) rfl (by kernel_rfl) (by kernel_rfl) (by kernel_rfl) (fun _ _ _ h => h) (Or.inl ⟨by rfl, ?_⟩) (by assumption) ?_
        rotate_left
        · (intro w hSw; (try dsimp only at hSw); go_simp; try with_reducible rfl)
        try simp only [Act.put, List.setIfInBounds_toArray, List.set_cons_zero, List.set_cons_succ]
        refine wpAnyH_take (i := 6) (oi := ⟨some 18, _, _, _, _, _⟩) (v := ?_) rfl (by kernel_rfl) (by kernel_rfl) (by kernel_rfl) (fun _ _ _ h => h) (Or.inl ⟨by rfl, ?_⟩) (by assumption) ?_
        rotate_left
        · (intro w hSw; (try dsimp only at hSw); go_simp; try with_reducible rfl)
        try simp only [Act.put, List.setIfInBounds_toArray, List.set_cons_zero, List.set_cons_succ]
        refine wpAnyH_take (i := 7) (oi := ⟨some 19, _, _, _, _, _⟩) (v := undef) rfl (by kernel_rfl) (by kernel_rfl) (by kernel_rfl) (fun _ _ _ h => h) (Or.inr ⟨by rfl, rfl⟩) (by assumption) ?_
        try simp only [Act.put, List.setIfInBounds_toArray, List.set_cons_zero, List.set_cons_succ]
        refine wpAnyH_take (i := 8) (oi := ⟨some 20, _, _, _, _, _⟩) (v := undef) rfl (by kernel_rfl) (by kernel_rfl) (by kernel_rfl) (fun _ _ _ h => h) (Or.inr ⟨by rfl, rfl⟩) (by assumption) ?_
        try simp only [Act.put, List.setIfInBounds_toArray, List.set_cons_zero, List.set_cons_succ]
        refine wpAnyH_take (i := 9) (oi := ⟨some 21, _, _, _, _, _⟩) (v := undef) rfl (by kernel_rfl) (by kernel_rfl) (by kernel_rfl) (fun _ _ _ h => h) (Or.inr ⟨by rfl, rfl⟩) (by assumption) ?_
        try simp only [Act.put, List.setIfInBounds_toArray, List.set_cons_zero, List.set_cons_succ]
        refine wpAnyH_take (i := 10) (oi := ⟨some 22, _, _, _, _, _⟩) (v := undef) rfl (by kernel_rfl) (by kernel_rfl) (by kernel_rfl) (fun _ _ _ h => h) (Or.inr ⟨by rfl, rfl⟩) (by assumption) ?_
        try simp only [Act.put, List.setIfInBounds_toArray, List.set_cons_zero, List.set_cons_succ]
        refine wpAnyH_take (i := 11) (oi := ⟨some 23, _, _, _, _, _⟩) (v := undef) rfl (by kernel_rfl) (by kernel_rfl) (by kernel_rfl) (fun _ _ _ h => h) (Or.inr ⟨by rfl, rfl⟩) (by assumption) ?_
        try simp only [Act.put, List.setIfInBounds_toArray, List.set_cons_zero, List.set_cons_succ]
        refine wpAnyH_take (i := 12) (oi := ⟨some 24, _, _, _, _, _⟩) (v := undef) rfl (by kernel_rfl) (by kernel_rfl) (by kernel_rfl) (fun _ _ _ h => h) (Or.inr ⟨by rfl, rfl⟩) (by assumption) ?_
        try simp only [Act.put, List.setIfInBounds_toArray, List.set_cons_zero, List.set_cons_succ]
        refine wpAnyH_take (i := 13) (oi := ⟨some 25, _, _, _, _, _⟩) (v := undef) rfl (by kernel_rfl) (by kernel_rfl) (by kernel_rfl) (fun _ _ _ h => h) (Or.inr ⟨by rfl, rfl⟩) (by assumption) ?_
        try simp only [Act.put, List.setIfInBounds_toArray, List.set_cons_zero, List.set_cons_succ]
        refine wpAnyH_take (i := 14) (oi := ⟨some 26, _, _, _, _, _⟩) (v := undef) rfl (by kernel_rfl) (by kernel_rfl) (by kernel_rfl) (fun _ _ _ h => h) (Or.inr ⟨by rfl, rfl⟩) (by assumption) ?_
        try simp only [Act.put, List.setIfInBounds_toArray, List.set_cons_zero, List.set_cons_succ]
        refine wpAnyH_take (i := 15) (oi := ⟨some 27, _, _, _, _, _⟩) (v := undef) rfl (by kernel_rfl) (by kernel_rfl) (by kernel_rfl) (fun _ _ _ h => h) (Or.inr ⟨by rfl, rfl⟩) (by assumption) ?_
        try simp only [Act.put, List.setIfInBounds_toArray, List.set_cons_zero, List.set_cons_succ]
        refine wpAnyH_take (i := 16) (oi := ⟨some 28, _, _, _, _, _⟩) (v := ?_) rfl (by kernel_rfl) (by kernel_rfl) (by kernel_rfl) (fun _ _ _ h => h) (Or.inl ⟨by rfl, ?_⟩) (by assumption) ?_
        rotate_left
        · (intro w hSw; (try dsimp only at hSw); go_simp; try with_reducible rfl)
        try simp only [Act.put, List.setIfInBounds_toArray, List.set_cons_zero, List.set_cons_succ]
        refine wpAnyH_take (i := 17) (oi := ⟨some 29, _, _, _, _, _⟩) (v := ?_) rfl (by kernel_rfl) (by kernel_rfl) (by kernel_rfl) (fun _ _ _ h => h) (Or.inl ⟨by rfl, ?_⟩) (by assumption) ?_
        rotate_left
        · (intro w hSw; (try dsimp only at hSw); go_simp; try with_reducible rfl)
        try simp only [Act.put, List.setIfInBounds_toArray, List.set_cons_zero, List.set_cons_succ]
        refine wpAnyH_done (by kernel_rfl) ?_ _
        obtain ⟨⟨-, hb⟩, -⟩ := hHeld
        replace BB := hid (below_trans BB.out hb)
        clear hb HS
        go_wp2_with fail
        go_roundw
        case rel => exact ⟨k + 1, by omega, by go_num, BB.out⟩
        case measure => simp [intOf]; omega
    · have q1 : ¬ (k : Int) < n := by omega
      have c1 : inB (n : Int) 1 12 = true := inB_iff.2 (by omega)
      go_wp2_with fail
      refine (within_ok _ _ _ _).mono ?_
      rintro e w6 ⟨rfl, rfl⟩
      rw [c1]
      go_wp2_with fail
      go_ret
      exact ⟨rfl, HB.out⟩

set_option maxHeartbeats 1600000 in
set_option maxRecDepth 100000 in
theorem weigh_ok (A : Option Addr) (c n : Nat) (xs : List DPart) (w : World) (hA : RowsAt w 3 A (xs.map DPart.cells)) (hX : DrwB xs) (hn : xs.length = n) (M P : Int) (hM : massL xs = M) (hP : momL xs = P) :
    Calls Tryd.prog 85 #[.slice A n c] w fun e w' => e = .returned (.tuple #[.int .i64 M, .int .i64 P]) ∧ Below w.heap.size w w' := by
  have HA := hid hA
  have HX := hid hX
  have HN := hid hn
  obtain ⟨n1, n6⟩ := drwB_n hX hn
  clear hA hX hn
  have HM := hid ((massL_n HN.out).symm.trans hM)
  have HP := hid ((momL_n HN.out).symm.trans hP)
  clear hM hP
  go_enter Tryd.func85, Tryd.ntmps85
  go_wp2_with fail
  go_loopw [4, 5, 10] (fun m v i wr => ∃ k : Nat, k ≤ n ∧ i = .int .i64 (k : Int) ∧ m = .int .i64 (sumB massP xs k) ∧ v = .int .i64 (sumB momP xs k) ∧ Below w.heap.size w wr) (fun _ _ i _ => n - (intOf i).toNat)
  case atStart => exact ⟨0, Nat.zero_le _, rfl, rfl, rfl, Below.refl _ _⟩
  case round =>
    obtain ⟨k, hk, rfl, rfl, rfl, hbel⟩ := hrel
    have HB := hid hbel
    clear hbel
    by_cases hkl : k < n
    · obtain ⟨x, hx⟩ : ∃ x, xs[k]? = some x := ⟨_, List.getElem?_eq_getElem (by rw [HN.out]; exact hkl)⟩
      have HXK := hid hx
      have HXS := hid (HX.out.one x (List.mem_of_getElem? hx))
      obtain ⟨ab, ao, rfl, hAt⟩ := PartAt.of_rows (HA.out.below HB.out) hx
      obtain ⟨hl0, x0, x1, x2⟩ := hAt
      have q0 : (0 : Int) ≤ (k : Int) := by omega
      have q1 : (k : Int) < n := by omega
      clear hx
      have HE1 := hid (sumB_next (f := massP) HXK.out)
      have HE2 := hid (sumB_next (f := momP) HXK.out)
      have b1 := mass_bd HX.out k (by rw [HN.out]; exact hk)
      have b2 := mom_bd HX.out k (by rw [HN.out]; exact hk)
      have b3 := mom_one HXS.out
      have b4 := mass_one HXS.out
      unfold momP at b3
      unfold massP at b4
      have HE3 := hid (show sumB massP xs (k + 1) = sumB massP xs k + x.fMass from HE1.out)
      have HE4 := hid (show sumB momP xs (k + 1) = sumB momP xs k + x.fMass * x.fAt from HE2.out)
      obtain ⟨s1, hs1⟩ : ∃ s, sumB massP xs k = s := ⟨_, rfl⟩
      obtain ⟨s2, hs2⟩ : ∃ s, sumB momP xs k = s := ⟨_, rfl⟩
      rw [hs1] at b1 HE3
      rw [hs2] at b2 HE4
      rw [hs1, hs2]
      have v1 : IntKind.i64.wrap (s1 + x.fMass) = s1 + x.fMass := IntWalk.i64_in _ (by omega)
      have v2 : IntKind.i64.wrap (x.fMass * x.fAt) = x.fMass * x.fAt := IntWalk.i64_in _ (by omega)
      have v3 : IntKind.i64.wrap (s2 + x.fMass * x.fAt) = s2 + x.fMass * x.fAt := IntWalk.i64_in _ (by omega)
      clear hs1 hs2 b1 b2 b3 b4
      go_wp2_with fail
      go_roundw
      case rel => exact ⟨k + 1, by omega, by go_num, by rw [HE3.out], by rw [HE4.out], below_trans HB.out (below_alloc _ _)⟩
      case measure => simp [intOf]; omega
    · have hk2 : k = n := by omega
      have q1 : ¬ (k : Int) < n := by omega
      rw [show sumB massP xs k = M by rw [hk2]; exact HM.out, show sumB momP xs k = P by rw [hk2]; exact HP.out]
      clear hk2
      go_wp2_with fail
      go_ret2
      exact ⟨rfl, HB.out⟩

set_option maxHeartbeats 1600000 in
set_option maxRecDepth 100000 in
theorem BowMass_ok (A : Option Addr) (c n : Nat) (xs : List DPart) (w : World) (hA : RowsAt w 3 A (xs.map DPart.cells)) (hX : DrwB xs) (hn : xs.length = n) (M : Int) (hM : massL xs = M) :
    Calls Tryd.prog 35 #[.slice A n c] w fun e w' => e = .returned (.tuple #[.int .i64 M, .int .i64 0]) ∧ Below w.heap.size w w' := by
  have HA := hid hA
  have HM := hid hM
  clear hA hM
  go_enter Tryd.func35, Tryd.ntmps35
  go_wp2_with fail
  refine (ValidBow_ok A c n xs _ HA.out hX hn).mono ?_
  rintro e w1 ⟨rfl, hb1⟩
  have HB1 := hid hb1
  have HA1 := hid (HA.out.below hb1)
  clear hb1
  go_wp2_with fail
  refine (weigh_ok A c n xs _ HA1.out hX hn M (momL xs) HM.out rfl).mono ?_
  rintro e w2 ⟨rfl, hb2⟩
  have HB2 := hid (below_trans HB1.out hb2)
  clear hb2
  go_wp2_with fail
  go_ret2
  exact ⟨rfl, HB2.out⟩

set_option maxHeartbeats 1600000 in
set_option maxRecDepth 100000 in
theorem BalanceOf_ok (A : Option Addr) (c n : Nat) (xs : List DPart) (w : World) (hA : RowsAt w 3 A (xs.map DPart.cells)) (hX : DrwB xs) (hn : xs.length = n) (M P : Int) (hM : massL xs = M) (hP : momL xs = P) :
    Calls Tryd.prog 36 #[.slice A n c] w fun e w' => e = .returned (.tuple #[.int .i64 (divR P M), .int .i64 0]) ∧ Below w.heap.size w w' := by
  have HA := hid hA
  have HM := hid hM
  have HP := hid hP
  have b1 := mass_bd hX n (by omega)
  have b2 := mom_bd hX n (by omega)
  have b3 := massL_pos hX
  rw [← massL_n hn, hM] at b1
  rw [← momL_n hn, hP] at b2
  rw [hM] at b3
  clear hA hM hP
  go_enter Tryd.func36, Tryd.ntmps36
  go_wp2_with fail
  refine (ValidBow_ok A c n xs _ HA.out hX hn).mono ?_
  rintro e w1 ⟨rfl, hb1⟩
  have HB1 := hid hb1
  have HA1 := hid (HA.out.below hb1)
  clear hb1
  go_wp2_with fail
  refine (weigh_ok A c n xs _ HA1.out hX hn M P HM.out HP.out).mono ?_
  rintro e w2 ⟨rfl, hb2⟩
  have HB2 := hid (below_trans HB1.out hb2)
  clear hb2
  go_wp2_with fail
  refine (divRound_ok P M _ (by omega) (by omega) (by omega) (by omega)).mono ?_
  rintro e w3 ⟨rfl, rfl⟩
  go_wp2_with fail
  go_ret2
  exact ⟨rfl, HB2.out⟩

end Go.Proofs.YtmfadjdpbobfhaaDoor
