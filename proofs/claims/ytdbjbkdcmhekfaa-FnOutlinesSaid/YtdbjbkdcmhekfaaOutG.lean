/- FnOutlines: the box. -/
import Derived.Test.YtdbjbkdcmhekfaaOutE
import Derived.Test.YtdbjbkdcmhekfaaNestR
import Derived.Test.YtdbjbkdcmhekfaaHeldT
namespace Go.Proofs.Ytdbjbkdcmhekfaa
open Go.RowKit
set_option linter.unusedVariables false

theorem wp_postO {P : Program} {c : Code} {Q : Exit → Act → World → Prop} {a : Act} {w : World} (R : World → Prop) {af : Act} (h : c.wp P (fun e a' w' => match e with | .normal => a' = af ∧ R w' | _ => False) a w) (hc : ∀ w', R w' → Q .normal af w') : c.wp P Q a w :=
  Code.wp_mono (fun e a' w' h => by
    cases e with
    | normal => obtain ⟨ha, hr⟩ := h; subst ha; exact hc _ hr
    | _ => exact h.elim) h
def BoxIn (xs : List DArc) (k : Nat) (p q r s : Int) : Prop := ∀ (j : Nat) (x : DArc), j < k → xs[j]? = some x → p ≤ x.fx ∧ q ≤ x.fy ∧ x.fx ≤ r ∧ x.fy ≤ s
theorem BoxIn.next {xs : List DArc} {k : Nat} {p q r s p' q' r' s' : Int} {x : DArc} (h : BoxIn xs k p q r s) (hx : xs[k]? = some x) (h1 : p' ≤ p ∧ p' ≤ x.fx) (h2 : q' ≤ q ∧ q' ≤ x.fy) (h3 : r ≤ r' ∧ x.fx ≤ r') (h4 : s ≤ s' ∧ x.fy ≤ s') : BoxIn xs (k + 1) p' q' r' s' := fun j y hj hy => by
  rcases Nat.lt_or_ge j k with hlt | hge
  · have := h j y hlt hy
    omega
  · have e : j = k := by omega
    subst e
    rw [hx] at hy
    injection hy with hy
    subst hy
    omega
def RetBox (w : World) (xs : List DArc) (e : Ending) (w' : World) : Prop := (∃ g, e = .returned (.tuple #[.slice (some ⟨g, 0, none⟩) 4 4, .int .i64 0]) ∧ ∃ p q r s, w'.ownsRow w.heap.size 2 1 (.slice (some ⟨g, 0, none⟩) 4 4) 4 [.int .i64 p, .int .i64 q, .int .i64 r, .int .i64 s] ∧ BoxIn xs xs.length p q r s) ∧ Below w.heap.size w w'
def BoxAt (w1 : World) (g : Nat) (p q r s : Int) (wr : World) : Prop := wr.ownsRow (w1.heap.size + 1) 2 1 (.slice (some ⟨g, 0, none⟩) 4 4) 4 [.int .i64 p, .int .i64 q, .int .i64 r, .int .i64 s]
theorem RetBox.of {w w1 wr : World} {xs : List DArc} {g : Nat} {p q r s : Int} (h : BoxAt w1 g p q r s wr) (hin : BoxIn xs xs.length p q r s) (h1 : Below w.heap.size w w1) (h2 : Below w1.heap.size w1 wr) : RetBox w xs (.returned (.tuple #[.slice (some ⟨g, 0, none⟩) 4 4, .int .i64 0])) wr :=
  ⟨⟨g, rfl, p, q, r, s, own_mono h (by have := h1.size; omega), hin⟩, below_trans h1 h2⟩
structure BoxFr (w1 W : World) (g lb : Nat) (a b : Int) : Prop where
  z2 : W.cell? ⟨lb, 2, none⟩ = some (.int .i64 a)
  z3 : W.cell? ⟨lb, 3, none⟩ = some (.int .i64 b)
  hl : lb < W.heap.size
  hg : g < W.heap.size
  bel : Below w1.heap.size w1 W
theorem BoxFr.put {w1 W : World} {g lb : Nat} {a b : Int} (h : BoxFr w1 W g lb a b) (hne : ¬ lb = g) (hlo : w1.heap.size + 1 ≤ g) (o o2 : Nat) (u v : Value) : BoxFr w1 ((W.drew.setCell ⟨g, o, none⟩ u).setCell ⟨g, o2, none⟩ v) g lb a b := by
  have hQ : Chg g (g + 1) W.drew ((W.drew.setCell ⟨g, o, none⟩ u).setCell ⟨g, o2, none⟩ v) := ((Chg.refl _ _ _).setCell (p := ⟨g, o, none⟩) _ (Nat.le_refl _) (Nat.lt_succ_self _)).setCell (p := ⟨g, o2, none⟩) _ (Nat.le_refl _) (Nat.lt_succ_self _)
  have hsz : W.heap.size ≤ _ := hQ.size
  have hbl := hQ.block lb h.hl (by omega)
  exact ⟨(World.cell?_of_block (a := ⟨lb, 2, none⟩) hbl).trans h.z2, (World.cell?_of_block (a := ⟨lb, 3, none⟩) hbl).trans h.z3, Nat.lt_of_lt_of_le h.hl hsz, Nat.lt_of_lt_of_le h.hg hsz, (((h.bel.drew).setCell (p := ⟨g, o, none⟩) (by show w1.heap.size ≤ g; omega) _).setCell (p := ⟨g, o2, none⟩) (by show w1.heap.size ≤ g; omega) _)⟩

set_option maxHeartbeats 1600000 in
set_option maxRecDepth 100000 in
theorem BoxOf_ok (A : Option Addr) (c : Nat) (xs : List DArc) (w : World) (hA : RowsAt w 6 A (xs.map DArc.cells)) (hX : OutOk xs) :
    Calls Try.prog 65 #[.slice A xs.length c] w (RetBox w xs) := by
  have HA := hid hA
  have HX := hid hX
  have hn2 := hX.n2
  have hn16 := hX.n16
  clear hA hX
  go_enter Try.func65, Try.ntmps65
  go_wp2_with fail
  refine (ValidOutline_ok A c xs _ HA.out HX.out).mono ?_
  rintro e w1 ⟨rfl, hb1⟩
  have HB1 := hid hb1
  have hAW := HA.out.below hb1
  clear hb1
  obtain ⟨x0, hx0⟩ : ∃ x, xs[0]? = some x := ⟨_, List.getElem?_eq_getElem (by omega)⟩
  obtain ⟨ab, ao, rfl, hAt⟩ := ArcAt.of_rows hAW hx0
  obtain ⟨hl0, a0, a1, a2, a3, a4, a5⟩ := hAt
  rw [Nat.zero_mul, Nat.add_zero] at a0 a1 a2 a3 a4 a5
  have q1 : (0 : Int) < xs.length := by omega
  clear hx0 hAW
  go_wp2_with fail
  clear a0 a1 a2 a3 a4 a5 q1
  go_loopw [26] (fun i wr => ∃ (k : Nat) (p q r s : Int), k ≤ xs.length ∧ i = .int .i64 (k : Int) ∧ BoxAt w1 (w1.heap.size + 1) p q r s wr ∧ Below w1.heap.size w1 wr ∧ BoxIn xs k p q r s) (fun i _ => xs.length - (intOf i).toNat)
  case atStart =>
    refine ⟨0, x0.fx, x0.fy, x0.fx, x0.fy, Nat.zero_le _, rfl, ?_, ?_, fun j _ h => absurd h (by omega)⟩
    · have h := World.ownsRow_lit (e := 2) (size := 1) (base := w1.heap.size + 1) (w1.alloc (.cells #[.int .i64 x0.fx, .int .i64 x0.fy] 86)) #[.int .i64 x0.fx, .int .i64 x0.fy, .int .i64 x0.fx, .int .i64 x0.fy] 4 (by simp) (by unfold maxLen; omega) rfl
      rw [show (w1.alloc (.cells #[.int .i64 x0.fx, .int .i64 x0.fy] 86)).heap.size = w1.heap.size + 1 by simp] at h
      exact h
    · exact below_trans (below_alloc _ _) (below_alloc _ _)
  case round =>
    obtain ⟨k, p, q, r, s, hk, rfl, hbox, hbel, hin⟩ := hrel
    have HB := hid hbel
    have HO := hid hbox
    have HIN := hid hin
    clear hbel hbox hin
    by_cases hkl : k < xs.length
    · obtain ⟨x, hx⟩ : ∃ x, xs[k]? = some x := ⟨_, List.getElem?_eq_getElem hkl⟩
      have HXK := hid hx
      obtain ⟨ab2, ao2, hae, hAt⟩ := ArcAt.of_rows ((HA.out.below HB1.out).below HB.out) hx
      injection hae with hae
      injection hae with ha1 ha2
      subst ha1 ha2
      obtain ⟨hl1, y0, y1, y2, y3, y4, y5⟩ := hAt
      obtain ⟨hl, z0, z1, z2, z3, z4, z5⟩ := ArcAt.new wr x 88
      have q0 : (0 : Int) ≤ (k : Int) := by omega
      have q1 : (k : Int) < xs.length := by omega
      clear hx
      go_upto_region 8 with fail
      obtain ⟨W, hW⟩ : ∃ W, W = wr.alloc (.cells #[.int .i64 x.cx, .int .i64 x.cy, .int .i64 x.fx, .int .i64 x.fy, .int .i64 x.tx, .int .i64 x.ty] 88) := ⟨_, rfl⟩
      rw [← hW]
      obtain ⟨lb, hlb⟩ : ∃ b, b = wr.heap.size := ⟨_, rfl⟩
      rw [← hlb]
      obtain ⟨g, hg⟩ : ∃ g, g = w1.heap.size + 1 := ⟨_, rfl⟩
      rw [← hg]
      rw [← hW, ← hlb] at z2 z3 hl
      have HO1 := hid (show BoxAt w1 g p q r s W by rw [hW, hg]; exact own_below HO.out (below_alloc _ _))
      have hgr : g < wr.heap.size := by rw [hg]; exact (World.ownsRow.lt HO.out _ rfl).2
      have HF1 := hid (show BoxFr w1 W g lb x.fx x.fy from ⟨z2, z3, hl, by omega, by rw [hW]; exact below_trans HB.out (below_alloc _ _)⟩)
      have hne : ¬ lb = g := by omega
      have hne2 : ¬ g = lb := by omega
      have c0 := World.ownsRow.cellAt HO1.out 0 (by omega)
      have c1 := World.ownsRow.cellAt HO1.out 1 (by omega)
      have f0 := World.ownsRow.frozenAt HO1.out 0
      have f1 := World.ownsRow.frozenAt HO1.out 1
      simp only [List.getElem?_cons_zero, List.getElem?_cons_succ] at c0 c1
      have HG := hid (show w1.heap.size + 1 ≤ g by omega)
      have HGE := hid hg
      clear y0 y1 y2 y3 y4 y5 z0 z1 z4 z5 hl1 hW hlb hgr hg hl
      apply wp_postO (R := fun w' => ∃ p' q' : Int, ((p' ≤ p) ∧ (p' ≤ x.fx)) ∧ ((q' ≤ q) ∧ (q' ≤ x.fy)) ∧ w' = (W.drew.setCell ⟨g, 0, none⟩ (.int .i64 p')).setCell ⟨g, 1, none⟩ (.int .i64 q'))
      · refine wp_region_T (fun w' => w'.cell? ⟨g, 0, none⟩ = some (.int .i64 p) ∧ w'.cell? ⟨g, 1, none⟩ = some (.int .i64 q) ∧ w'.cell? ⟨lb, 2, none⟩ = some (.int .i64 x.fx) ∧ w'.cell? ⟨lb, 3, none⟩ = some (.int .i64 x.fy)) [17, 19] (by kernel_rfl) ⟨c0, c1, z2, z3⟩ (fun hHeld => ?_)
        refine wpAnyT_takeW (i := 0) (oi := ⟨some 30, _, _, _, _, _⟩) (v := ?_) rfl (by kernel_rfl) (by kernel_rfl) (by kernel_rfl) (by kernel_rfl) (fun _ _ _ h => h) (Or.inl ⟨by rfl, ?_⟩) (by assumption) ?_
        rotate_left
        · (intro w hSw; go_simp; try with_reducible rfl)
        try simp only [Act.put, List.setIfInBounds_toArray, List.set_cons_zero, List.set_cons_succ]
        refine wpAnyT_takeW (i := 1) (oi := ⟨some 31, _, _, _, _, _⟩) (v := ?_) rfl (by kernel_rfl) (by kernel_rfl) (by kernel_rfl) (by kernel_rfl) (fun _ _ _ h => h) (Or.inl ⟨by rfl, ?_⟩) (by assumption) ?_
        rotate_left
        · (intro w hSw; go_simp; try with_reducible rfl)
        try simp only [Act.put, List.setIfInBounds_toArray, List.set_cons_zero, List.set_cons_succ]
        refine wpAnyT_takeW (i := 2) (oi := ⟨some 32, _, _, _, _, _⟩) (v := ?_) rfl (by kernel_rfl) (by kernel_rfl) (by kernel_rfl) (by kernel_rfl) (fun _ _ _ h => h) (Or.inl ⟨by rfl, ?_⟩) (by assumption) ?_
        rotate_left
        · (intro w hSw; go_simp; try with_reducible rfl)
        try simp only [Act.put, List.setIfInBounds_toArray, List.set_cons_zero, List.set_cons_succ]
        refine wpAnyT_takeW (i := 3) (oi := ⟨some 33, _, _, _, _, _⟩) (v := ?_) rfl (by kernel_rfl) (by kernel_rfl) (by kernel_rfl) (by kernel_rfl) (fun _ _ _ h => h) (Or.inl ⟨by rfl, ?_⟩) (by assumption) ?_
        rotate_left
        · (intro w hSw; go_simp; try with_reducible rfl)
        try simp only [Act.put, List.setIfInBounds_toArray, List.set_cons_zero, List.set_cons_succ]
        refine wpAnyT_takeW (i := 5) (oi := ⟨some 35, _, _, _, _, _⟩) (v := ?_) rfl (by kernel_rfl) (by kernel_rfl) (by kernel_rfl) (by kernel_rfl) (fun _ _ _ h => h) (Or.inl ⟨by rfl, ?_⟩) (by assumption) ?_
        rotate_left
        · (intro w hSw; go_simp; try with_reducible rfl)
        try simp only [Act.put, List.setIfInBounds_toArray, List.set_cons_zero, List.set_cons_succ]
        refine wpAnyT_takeW (i := 6) (oi := ⟨some 36, _, _, _, _, _⟩) (v := ?_) rfl (by kernel_rfl) (by kernel_rfl) (by kernel_rfl) (by kernel_rfl) (fun _ _ _ h => h) (Or.inl ⟨by rfl, ?_⟩) (by assumption) ?_
        rotate_left
        · (intro w hSw; go_simp; try with_reducible rfl)
        try simp only [Act.put, List.setIfInBounds_toArray, List.set_cons_zero, List.set_cons_succ]
        refine wpAnyT_takeW (i := 9) (oi := ⟨some 39, _, _, _, _, _⟩) (v := ?_) rfl (by kernel_rfl) (by kernel_rfl) (by kernel_rfl) (by kernel_rfl) (fun _ _ _ h => h) (Or.inl ⟨by rfl, ?_⟩) (by assumption) ?_
        rotate_left
        · (intro w hSw; go_simp; try with_reducible rfl)
        try simp only [Act.put, List.setIfInBounds_toArray, List.set_cons_zero, List.set_cons_succ]
        refine wpAnyT_takeW (i := 10) (oi := ⟨some 40, _, _, _, _, _⟩) (v := ?_) rfl (by kernel_rfl) (by kernel_rfl) (by kernel_rfl) (by kernel_rfl) (fun _ _ _ h => h) (Or.inl ⟨by rfl, ?_⟩) (by assumption) ?_
        rotate_left
        · (intro w hSw; go_simp; try with_reducible rfl)
        try simp only [Act.put, List.setIfInBounds_toArray, List.set_cons_zero, List.set_cons_succ]
        refine wpAnyT_takeW (i := 12) (oi := ⟨some 42, _, _, _, _, _⟩) (v := ?_) rfl (by kernel_rfl) (by kernel_rfl) (by kernel_rfl) (by kernel_rfl) (fun _ _ _ h => h) (Or.inl ⟨by rfl, ?_⟩) (by assumption) ?_
        rotate_left
        · (intro w hSw; go_simp; try with_reducible rfl)
        try simp only [Act.put, List.setIfInBounds_toArray, List.set_cons_zero, List.set_cons_succ]
        refine wpAnyT_takeW (i := 13) (oi := ⟨some 43, _, _, _, _, _⟩) (v := ?_) rfl (by kernel_rfl) (by kernel_rfl) (by kernel_rfl) (by kernel_rfl) (fun _ _ _ h => h) (Or.inl ⟨by rfl, ?_⟩) (by assumption) ?_
        rotate_left
        · (intro w hSw; go_simp; try with_reducible rfl)
        try simp only [Act.put, List.setIfInBounds_toArray, List.set_cons_zero, List.set_cons_succ]
        refine wpAnyT_take (i := 4) (oi := ⟨some 34, _, _, _, _, _⟩) (v := ?_) rfl (by kernel_rfl) (by kernel_rfl) (by kernel_rfl) (by kernel_rfl) (by kernel_rfl) (by kernel_rfl) (fun _ _ _ h => h) (Or.inl ⟨by rfl, ?_⟩) (by assumption) ?_
        rotate_left
        · (intro w hSw; (try dsimp only at hSw); go_simp; try with_reducible rfl)
        try simp only [Act.put, List.setIfInBounds_toArray, List.set_cons_zero, List.set_cons_succ]
        refine wpAnyT_take (i := 7) (oi := ⟨some 37, _, _, _, _, _⟩) (v := ?_) rfl (by kernel_rfl) (by kernel_rfl) (by kernel_rfl) (by kernel_rfl) (by kernel_rfl) (by kernel_rfl) (fun _ _ _ h => h) (Or.inl ⟨by rfl, ?_⟩) (by assumption) ?_
        rotate_left
        · (intro w hSw; (try dsimp only at hSw); go_simp; try with_reducible rfl)
        try simp only [Act.put, List.setIfInBounds_toArray, List.set_cons_zero, List.set_cons_succ]
        refine wpAnyT_take (i := 11) (oi := ⟨some 41, _, _, _, _, _⟩) (v := ?_) rfl (by kernel_rfl) (by kernel_rfl) (by kernel_rfl) (by kernel_rfl) (by kernel_rfl) (by kernel_rfl) (fun _ _ _ h => h) (Or.inl ⟨by rfl, ?_⟩) (by assumption) ?_
        rotate_left
        · (intro w hSw; (try dsimp only at hSw); go_simp; try with_reducible rfl)
        try simp only [Act.put, List.setIfInBounds_toArray, List.set_cons_zero, List.set_cons_succ]
        refine wpAnyT_takeW (i := 8) (oi := ⟨some 38, _, _, _, _, _⟩) (v := ?_) rfl (by kernel_rfl) (by kernel_rfl) (by kernel_rfl) (by kernel_rfl) (fun _ _ _ h => h) (Or.inl ⟨by rfl, ?_⟩) (by assumption) ?_
        rotate_left
        · (intro w hSw; go_simp; try with_reducible rfl)
        try simp only [Act.put, List.setIfInBounds_toArray, List.set_cons_zero, List.set_cons_succ]
        refine wpAnyT_takeW (i := 16) (oi := ⟨some 46, _, _, _, _, _⟩) (v := ?_) rfl (by kernel_rfl) (by kernel_rfl) (by kernel_rfl) (by kernel_rfl) (fun _ _ _ h => h) (Or.inl ⟨by rfl, ?_⟩) (by assumption) ?_
        rotate_left
        · (intro w hSw; go_simp; try with_reducible rfl)
        try simp only [Act.put, List.setIfInBounds_toArray, List.set_cons_zero, List.set_cons_succ]
        refine wpAnyT_ready (rs := [14, 17]) (by kernel_rfl) (by simp) ?_
        refine AllReadyT.cons (o := ⟨some 44, _, _, _, _, _⟩) rfl (fun K hK => ?_) (AllReadyT.consB (o := ⟨none, _, _, _, _, _⟩) rfl (by kernel_rfl) (fun K hK => ?_) AllReadyT.nil)
        · go_simp
          refine hK.out _ _ ⟨c0, c1, z2, z3⟩ (fun hHeld => ?_)
          clear hK K
          try simp only [Act.put, List.setIfInBounds_toArray, List.set_cons_zero, List.set_cons_succ]
          refine wpAnyT_takeW (i := 15) (oi := ⟨some 45, _, _, _, _, _⟩) (v := ?_) rfl (by kernel_rfl) (by kernel_rfl) (by kernel_rfl) (by kernel_rfl) (fun _ _ _ h => h) (Or.inl ⟨by rfl, ?_⟩) (by assumption) ?_
          rotate_left
          · (intro w hSw; go_simp; try with_reducible rfl)
          try simp only [Act.put, List.setIfInBounds_toArray, List.set_cons_zero, List.set_cons_succ]
          refine wpAnyT_ready (rs := [17]) (by kernel_rfl) (by simp) ?_
          refine AllReadyT.consB (o := ⟨none, _, _, _, _, _⟩) rfl (by kernel_rfl) (fun K hK => ?_) AllReadyT.nil
          go_simp
          refine hK.out _ _ ?_
          clear hK K
          try simp only [Act.put, List.setIfInBounds_toArray, List.set_cons_zero, List.set_cons_succ]
          refine wpAnyT_takeV (i := 18) (oi := ⟨some 47, _, _, _, _, _⟩) (v := ?_) rfl (by kernel_rfl) (by kernel_rfl) (by kernel_rfl) (by kernel_rfl) (by kernel_rfl) (fun _ _ _ h => h) (Or.inl ⟨by rfl, ?_⟩) ?_
          rotate_left
          · (intro w hSw; go_simp; try with_reducible rfl)
          try simp only [Act.put, List.setIfInBounds_toArray, List.set_cons_zero, List.set_cons_succ]
          refine wpAnyT_ready (rs := [19]) (by kernel_rfl) (by simp) ?_
          refine AllReadyT.consB (o := ⟨none, _, _, _, _, _⟩) rfl (by kernel_rfl) (fun K hK => ?_) AllReadyT.nil
          go_simp
          refine hK.out _ _ ?_
          clear hK K
          try simp only [Act.put, List.setIfInBounds_toArray, List.set_cons_zero, List.set_cons_succ]
          refine wpAnyT_done (by kernel_rfl) ?_ _
          exact ⟨rfl, _, _, ⟨by first | omega | (split <;> omega), by first | omega | (split <;> omega)⟩, ⟨by first | omega | (split <;> omega), by first | omega | (split <;> omega)⟩, rfl⟩
        · go_simp
          refine hK.out _ _ ?_
          clear hK K
          try simp only [Act.put, List.setIfInBounds_toArray, List.set_cons_zero, List.set_cons_succ]
          refine wpAnyT_ready (rs := [14]) (by kernel_rfl) (by simp) ?_
          refine AllReadyT.consB (o := ⟨some 44, _, _, _, _, _⟩) rfl (by kernel_rfl) (fun K hK => ?_) AllReadyT.nil
          go_simp
          refine hK.out _ _ ?_
          clear hK K
          try simp only [Act.put, List.setIfInBounds_toArray, List.set_cons_zero, List.set_cons_succ]
          refine wpAnyT_takeV (i := 15) (oi := ⟨some 45, _, _, _, _, _⟩) (v := ?_) rfl (by kernel_rfl) (by kernel_rfl) (by kernel_rfl) (by kernel_rfl) (by kernel_rfl) (fun _ _ _ h => h) (Or.inl ⟨by rfl, ?_⟩) ?_
          rotate_left
          · (intro w hSw; go_simp; try with_reducible rfl)
          try simp only [Act.put, List.setIfInBounds_toArray, List.set_cons_zero, List.set_cons_succ]
          refine wpAnyT_takeV (i := 18) (oi := ⟨some 47, _, _, _, _, _⟩) (v := ?_) rfl (by kernel_rfl) (by kernel_rfl) (by kernel_rfl) (by kernel_rfl) (by kernel_rfl) (fun _ _ _ h => h) (Or.inl ⟨by rfl, ?_⟩) ?_
          rotate_left
          · (intro w hSw; go_simp; try with_reducible rfl)
          try simp only [Act.put, List.setIfInBounds_toArray, List.set_cons_zero, List.set_cons_succ]
          refine wpAnyT_ready (rs := [19]) (by kernel_rfl) (by simp) ?_
          refine AllReadyT.consB (o := ⟨none, _, _, _, _, _⟩) rfl (by kernel_rfl) (fun K hK => ?_) AllReadyT.nil
          go_simp
          refine hK.out _ _ ?_
          clear hK K
          try simp only [Act.put, List.setIfInBounds_toArray, List.set_cons_zero, List.set_cons_succ]
          refine wpAnyT_done (by kernel_rfl) ?_ _
          exact ⟨rfl, _, _, ⟨by first | omega | (split <;> omega), by first | omega | (split <;> omega)⟩, ⟨by first | omega | (split <;> omega), by first | omega | (split <;> omega)⟩, rfl⟩
      rintro W2 ⟨p', q', hp, hq, hW2⟩
      have HO2 := hid (show BoxAt w1 g p' q' r s W2 by rw [hW2]; exact own_setCells (w := W.drew) [.int .i64 p', .int .i64 q'] (p := 0) HO1.out)
      have HF2 := hid (show BoxFr w1 W2 g lb x.fx x.fy by rw [hW2]; exact HF1.out.put hne HG.out 0 1 _ _)
      have HPQ := hid (show (p' ≤ p ∧ p' ≤ x.fx) ∧ (q' ≤ q ∧ q' ≤ x.fy) from ⟨hp, hq⟩)
      clear c0 c1 f0 f1 z2 z3 hW2 hp hq
      have c2 := World.ownsRow.cellAt HO2.out 2 (by omega)
      have c3 := World.ownsRow.cellAt HO2.out 3 (by omega)
      have f2 := World.ownsRow.frozenAt HO2.out 2
      have f3 := World.ownsRow.frozenAt HO2.out 3
      simp only [List.getElem?_cons_zero, List.getElem?_cons_succ] at c2 c3
      have z2 := HF2.out.z2
      have z3 := HF2.out.z3
      go_upto_region 9 with fail
      apply wp_postO (R := fun w' => ∃ p' q' : Int, ((r ≤ p') ∧ (x.fx ≤ p')) ∧ ((s ≤ q') ∧ (x.fy ≤ q')) ∧ w' = (W2.drew.setCell ⟨g, 2, none⟩ (.int .i64 p')).setCell ⟨g, 3, none⟩ (.int .i64 q'))
      · refine wp_region_T (fun w' => w'.cell? ⟨g, 2, none⟩ = some (.int .i64 r) ∧ w'.cell? ⟨g, 3, none⟩ = some (.int .i64 s) ∧ w'.cell? ⟨lb, 2, none⟩ = some (.int .i64 x.fx) ∧ w'.cell? ⟨lb, 3, none⟩ = some (.int .i64 x.fy)) [17, 19] (by kernel_rfl) ⟨c2, c3, z2, z3⟩ (fun hHeld => ?_)
        refine wpAnyT_takeW (i := 0) (oi := ⟨some 48, _, _, _, _, _⟩) (v := ?_) rfl (by kernel_rfl) (by kernel_rfl) (by kernel_rfl) (by kernel_rfl) (fun _ _ _ h => h) (Or.inl ⟨by rfl, ?_⟩) (by assumption) ?_
        rotate_left
        · (intro w hSw; go_simp; try with_reducible rfl)
        try simp only [Act.put, List.setIfInBounds_toArray, List.set_cons_zero, List.set_cons_succ]
        refine wpAnyT_takeW (i := 1) (oi := ⟨some 49, _, _, _, _, _⟩) (v := ?_) rfl (by kernel_rfl) (by kernel_rfl) (by kernel_rfl) (by kernel_rfl) (fun _ _ _ h => h) (Or.inl ⟨by rfl, ?_⟩) (by assumption) ?_
        rotate_left
        · (intro w hSw; go_simp; try with_reducible rfl)
        try simp only [Act.put, List.setIfInBounds_toArray, List.set_cons_zero, List.set_cons_succ]
        refine wpAnyT_takeW (i := 2) (oi := ⟨some 50, _, _, _, _, _⟩) (v := ?_) rfl (by kernel_rfl) (by kernel_rfl) (by kernel_rfl) (by kernel_rfl) (fun _ _ _ h => h) (Or.inl ⟨by rfl, ?_⟩) (by assumption) ?_
        rotate_left
        · (intro w hSw; go_simp; try with_reducible rfl)
        try simp only [Act.put, List.setIfInBounds_toArray, List.set_cons_zero, List.set_cons_succ]
        refine wpAnyT_takeW (i := 3) (oi := ⟨some 51, _, _, _, _, _⟩) (v := ?_) rfl (by kernel_rfl) (by kernel_rfl) (by kernel_rfl) (by kernel_rfl) (fun _ _ _ h => h) (Or.inl ⟨by rfl, ?_⟩) (by assumption) ?_
        rotate_left
        · (intro w hSw; go_simp; try with_reducible rfl)
        try simp only [Act.put, List.setIfInBounds_toArray, List.set_cons_zero, List.set_cons_succ]
        refine wpAnyT_takeW (i := 5) (oi := ⟨some 53, _, _, _, _, _⟩) (v := ?_) rfl (by kernel_rfl) (by kernel_rfl) (by kernel_rfl) (by kernel_rfl) (fun _ _ _ h => h) (Or.inl ⟨by rfl, ?_⟩) (by assumption) ?_
        rotate_left
        · (intro w hSw; go_simp; try with_reducible rfl)
        try simp only [Act.put, List.setIfInBounds_toArray, List.set_cons_zero, List.set_cons_succ]
        refine wpAnyT_takeW (i := 6) (oi := ⟨some 54, _, _, _, _, _⟩) (v := ?_) rfl (by kernel_rfl) (by kernel_rfl) (by kernel_rfl) (by kernel_rfl) (fun _ _ _ h => h) (Or.inl ⟨by rfl, ?_⟩) (by assumption) ?_
        rotate_left
        · (intro w hSw; go_simp; try with_reducible rfl)
        try simp only [Act.put, List.setIfInBounds_toArray, List.set_cons_zero, List.set_cons_succ]
        refine wpAnyT_takeW (i := 9) (oi := ⟨some 57, _, _, _, _, _⟩) (v := ?_) rfl (by kernel_rfl) (by kernel_rfl) (by kernel_rfl) (by kernel_rfl) (fun _ _ _ h => h) (Or.inl ⟨by rfl, ?_⟩) (by assumption) ?_
        rotate_left
        · (intro w hSw; go_simp; try with_reducible rfl)
        try simp only [Act.put, List.setIfInBounds_toArray, List.set_cons_zero, List.set_cons_succ]
        refine wpAnyT_takeW (i := 10) (oi := ⟨some 58, _, _, _, _, _⟩) (v := ?_) rfl (by kernel_rfl) (by kernel_rfl) (by kernel_rfl) (by kernel_rfl) (fun _ _ _ h => h) (Or.inl ⟨by rfl, ?_⟩) (by assumption) ?_
        rotate_left
        · (intro w hSw; go_simp; try with_reducible rfl)
        try simp only [Act.put, List.setIfInBounds_toArray, List.set_cons_zero, List.set_cons_succ]
        refine wpAnyT_takeW (i := 12) (oi := ⟨some 60, _, _, _, _, _⟩) (v := ?_) rfl (by kernel_rfl) (by kernel_rfl) (by kernel_rfl) (by kernel_rfl) (fun _ _ _ h => h) (Or.inl ⟨by rfl, ?_⟩) (by assumption) ?_
        rotate_left
        · (intro w hSw; go_simp; try with_reducible rfl)
        try simp only [Act.put, List.setIfInBounds_toArray, List.set_cons_zero, List.set_cons_succ]
        refine wpAnyT_takeW (i := 13) (oi := ⟨some 61, _, _, _, _, _⟩) (v := ?_) rfl (by kernel_rfl) (by kernel_rfl) (by kernel_rfl) (by kernel_rfl) (fun _ _ _ h => h) (Or.inl ⟨by rfl, ?_⟩) (by assumption) ?_
        rotate_left
        · (intro w hSw; go_simp; try with_reducible rfl)
        try simp only [Act.put, List.setIfInBounds_toArray, List.set_cons_zero, List.set_cons_succ]
        refine wpAnyT_take (i := 4) (oi := ⟨some 52, _, _, _, _, _⟩) (v := ?_) rfl (by kernel_rfl) (by kernel_rfl) (by kernel_rfl) (by kernel_rfl) (by kernel_rfl) (by kernel_rfl) (fun _ _ _ h => h) (Or.inl ⟨by rfl, ?_⟩) (by assumption) ?_
        rotate_left
        · (intro w hSw; (try dsimp only at hSw); go_simp; try with_reducible rfl)
        try simp only [Act.put, List.setIfInBounds_toArray, List.set_cons_zero, List.set_cons_succ]
        refine wpAnyT_take (i := 7) (oi := ⟨some 55, _, _, _, _, _⟩) (v := ?_) rfl (by kernel_rfl) (by kernel_rfl) (by kernel_rfl) (by kernel_rfl) (by kernel_rfl) (by kernel_rfl) (fun _ _ _ h => h) (Or.inl ⟨by rfl, ?_⟩) (by assumption) ?_
        rotate_left
        · (intro w hSw; (try dsimp only at hSw); go_simp; try with_reducible rfl)
        try simp only [Act.put, List.setIfInBounds_toArray, List.set_cons_zero, List.set_cons_succ]
        refine wpAnyT_take (i := 11) (oi := ⟨some 59, _, _, _, _, _⟩) (v := ?_) rfl (by kernel_rfl) (by kernel_rfl) (by kernel_rfl) (by kernel_rfl) (by kernel_rfl) (by kernel_rfl) (fun _ _ _ h => h) (Or.inl ⟨by rfl, ?_⟩) (by assumption) ?_
        rotate_left
        · (intro w hSw; (try dsimp only at hSw); go_simp; try with_reducible rfl)
        try simp only [Act.put, List.setIfInBounds_toArray, List.set_cons_zero, List.set_cons_succ]
        refine wpAnyT_takeW (i := 8) (oi := ⟨some 56, _, _, _, _, _⟩) (v := ?_) rfl (by kernel_rfl) (by kernel_rfl) (by kernel_rfl) (by kernel_rfl) (fun _ _ _ h => h) (Or.inl ⟨by rfl, ?_⟩) (by assumption) ?_
        rotate_left
        · (intro w hSw; go_simp; try with_reducible rfl)
        try simp only [Act.put, List.setIfInBounds_toArray, List.set_cons_zero, List.set_cons_succ]
        refine wpAnyT_takeW (i := 16) (oi := ⟨some 64, _, _, _, _, _⟩) (v := ?_) rfl (by kernel_rfl) (by kernel_rfl) (by kernel_rfl) (by kernel_rfl) (fun _ _ _ h => h) (Or.inl ⟨by rfl, ?_⟩) (by assumption) ?_
        rotate_left
        · (intro w hSw; go_simp; try with_reducible rfl)
        try simp only [Act.put, List.setIfInBounds_toArray, List.set_cons_zero, List.set_cons_succ]
        refine wpAnyT_ready (rs := [14, 17]) (by kernel_rfl) (by simp) ?_
        refine AllReadyT.cons (o := ⟨some 62, _, _, _, _, _⟩) rfl (fun K hK => ?_) (AllReadyT.consB (o := ⟨none, _, _, _, _, _⟩) rfl (by kernel_rfl) (fun K hK => ?_) AllReadyT.nil)
        · go_simp
          refine hK.out _ _ ⟨c2, c3, z2, z3⟩ (fun hHeld => ?_)
          clear hK K
          try simp only [Act.put, List.setIfInBounds_toArray, List.set_cons_zero, List.set_cons_succ]
          refine wpAnyT_takeW (i := 15) (oi := ⟨some 63, _, _, _, _, _⟩) (v := ?_) rfl (by kernel_rfl) (by kernel_rfl) (by kernel_rfl) (by kernel_rfl) (fun _ _ _ h => h) (Or.inl ⟨by rfl, ?_⟩) (by assumption) ?_
          rotate_left
          · (intro w hSw; go_simp; try with_reducible rfl)
          try simp only [Act.put, List.setIfInBounds_toArray, List.set_cons_zero, List.set_cons_succ]
          refine wpAnyT_ready (rs := [17]) (by kernel_rfl) (by simp) ?_
          refine AllReadyT.consB (o := ⟨none, _, _, _, _, _⟩) rfl (by kernel_rfl) (fun K hK => ?_) AllReadyT.nil
          go_simp
          refine hK.out _ _ ?_
          clear hK K
          try simp only [Act.put, List.setIfInBounds_toArray, List.set_cons_zero, List.set_cons_succ]
          refine wpAnyT_takeV (i := 18) (oi := ⟨some 65, _, _, _, _, _⟩) (v := ?_) rfl (by kernel_rfl) (by kernel_rfl) (by kernel_rfl) (by kernel_rfl) (by kernel_rfl) (fun _ _ _ h => h) (Or.inl ⟨by rfl, ?_⟩) ?_
          rotate_left
          · (intro w hSw; go_simp; try with_reducible rfl)
          try simp only [Act.put, List.setIfInBounds_toArray, List.set_cons_zero, List.set_cons_succ]
          refine wpAnyT_ready (rs := [19]) (by kernel_rfl) (by simp) ?_
          refine AllReadyT.consB (o := ⟨none, _, _, _, _, _⟩) rfl (by kernel_rfl) (fun K hK => ?_) AllReadyT.nil
          go_simp
          refine hK.out _ _ ?_
          clear hK K
          try simp only [Act.put, List.setIfInBounds_toArray, List.set_cons_zero, List.set_cons_succ]
          refine wpAnyT_done (by kernel_rfl) ?_ _
          exact ⟨rfl, _, _, ⟨by first | omega | (split <;> omega), by first | omega | (split <;> omega)⟩, ⟨by first | omega | (split <;> omega), by first | omega | (split <;> omega)⟩, rfl⟩
        · go_simp
          refine hK.out _ _ ?_
          clear hK K
          try simp only [Act.put, List.setIfInBounds_toArray, List.set_cons_zero, List.set_cons_succ]
          refine wpAnyT_ready (rs := [14]) (by kernel_rfl) (by simp) ?_
          refine AllReadyT.consB (o := ⟨some 62, _, _, _, _, _⟩) rfl (by kernel_rfl) (fun K hK => ?_) AllReadyT.nil
          go_simp
          refine hK.out _ _ ?_
          clear hK K
          try simp only [Act.put, List.setIfInBounds_toArray, List.set_cons_zero, List.set_cons_succ]
          refine wpAnyT_takeV (i := 15) (oi := ⟨some 63, _, _, _, _, _⟩) (v := ?_) rfl (by kernel_rfl) (by kernel_rfl) (by kernel_rfl) (by kernel_rfl) (by kernel_rfl) (fun _ _ _ h => h) (Or.inl ⟨by rfl, ?_⟩) ?_
          rotate_left
          · (intro w hSw; go_simp; try with_reducible rfl)
          try simp only [Act.put, List.setIfInBounds_toArray, List.set_cons_zero, List.set_cons_succ]
          refine wpAnyT_takeV (i := 18) (oi := ⟨some 65, _, _, _, _, _⟩) (v := ?_) rfl (by kernel_rfl) (by kernel_rfl) (by kernel_rfl) (by kernel_rfl) (by kernel_rfl) (fun _ _ _ h => h) (Or.inl ⟨by rfl, ?_⟩) ?_
          rotate_left
          · (intro w hSw; go_simp; try with_reducible rfl)
          try simp only [Act.put, List.setIfInBounds_toArray, List.set_cons_zero, List.set_cons_succ]
          refine wpAnyT_ready (rs := [19]) (by kernel_rfl) (by simp) ?_
          refine AllReadyT.consB (o := ⟨none, _, _, _, _, _⟩) rfl (by kernel_rfl) (fun K hK => ?_) AllReadyT.nil
          go_simp
          refine hK.out _ _ ?_
          clear hK K
          try simp only [Act.put, List.setIfInBounds_toArray, List.set_cons_zero, List.set_cons_succ]
          refine wpAnyT_done (by kernel_rfl) ?_ _
          exact ⟨rfl, _, _, ⟨by first | omega | (split <;> omega), by first | omega | (split <;> omega)⟩, ⟨by first | omega | (split <;> omega), by first | omega | (split <;> omega)⟩, rfl⟩
      rintro W4 ⟨r', s', hr, hs, hW4⟩
      have HO4 := hid (show BoxAt w1 g p' q' r' s' W4 by rw [hW4]; exact own_setCells (w := W2.drew) [.int .i64 r', .int .i64 s'] (p := 2) HO2.out)
      have HF4 := hid (show BoxFr w1 W4 g lb x.fx x.fy by rw [hW4]; exact HF2.out.put hne HG.out 2 3 _ _)
      have HIN2 := hid (HIN.out.next HXK.out HPQ.out.1 HPQ.out.2 hr hs)
      clear c2 c3 f2 f3 z2 z3 hW4 hr hs
      go_wp2_with fail
      have hge := HGE.out
      clear HGE
      subst hge
      go_roundw
      case rel => exact ⟨_, _, ⟨k + 1, by omega, by go_num, p', q', r', s', HO4.out, HF4.out.bel, HIN2.out⟩, rfl, rfl, rfl, rfl⟩
      case measure => simp [intOf]; omega
    · have hk2 : k = xs.length := by omega
      subst hk2
      have q1 : ¬ (xs.length : Int) < xs.length := by omega
      go_wp2_with fail
      go_ret2
      have h9 := RetBox.of HO.out HIN.out HB1.out HB.out
      exact h9

end Go.Proofs.Ytdbjbkdcmhekfaa
