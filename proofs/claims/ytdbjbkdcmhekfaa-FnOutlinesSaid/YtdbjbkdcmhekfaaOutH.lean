/- FnOutlines: outlines moved and mirrored, ovals. -/
import Derived.Test.YtdbjbkdcmhekfaaOutM
import Derived.Test.YtdbjbkdcmhekfaaFrame
import Derived.Deep.AppendLies
import Derived.Maps.AppendAt
namespace Go.Proofs.Ytdbjbkdcmhekfaa
open Go.RowKit
set_option linter.unusedVariables false

theorem step_appO {P : Program} {w0 wr : World} {ops : Array Oper} {o : Oper} {a : Act} {K : Act → World → Prop} {Q : Exit → Act → World → Prop} {E : Prop} (hgd : o.guard = none) (s x : Operand) (t : TypeId)
    (ho : o.op = .call { callee := .builtin .append, args := #[s, x], argTypes := #[t, t] })
    (B : Nat) (e : TypeId) (z : Value) (size bytes : Nat) (ht : P.underlying t = some (.slice e)) (hinfo : (P.info? e).map (fun i => (i.zero, i.size, i.bytes)) = some (some z, size, bytes)) (hzs : z.cells.size = size) (hsz : 0 < size)
    (v : Value) (n : Nat) (xs : List Value) (hs : a.eval s = v) (hown : wr.ownsRow B e size v n xs)
    (cs : Array Value) (m c : Nat) (hx : a.eval x = .slice (some ⟨wr.heap.size, 0, none⟩) m c) (hl : cs.size = m * size) (h1 : ∀ u ∈ cs.toList, u.oneCell' = true)
    (hbytes : (n + m) * (bytes + 1) ≤ 140737488355328) (hbase : B ≤ wr.heap.size) (hbel : Below B w0 wr)
    (h : ∀ v' w', w'.ownsRow B e size v' (n + m) (xs ++ cs.toList) → Below B w0 w' → (wr.alloc (.cells cs e)).grownBy w' v.ownBlock → (v'.ownBlock = v.ownBlock ∨ v'.ownBlock = some (wr.heap.size + 1)) → K (a.put o.dst v') w') :
    if Region.wanted o (yielded ops a.tmps) = true then Oper.wp P o a (wr.alloc (.cells cs e)) K Q else E := by
  have hw : Region.wanted o (yielded ops a.tmps) = true := by simp [Region.wanted, hgd]
  rw [if_pos hw]
  obtain ⟨i0, hi, hz0, hz1, hz2⟩ := info_parts hinfo
  have hnm : n + m ≤ (n + m) * (bytes + 1) := Nat.le_mul_of_pos_right _ (by omega)
  have hb2 : (n + m) * bytes ≤ (n + m) * (bytes + 1) := Nat.mul_le_mul_left _ (by omega)
  obtain ⟨v', w', hr, h2, h3, h4, h5⟩ := run_append_own_at (P := P) (w := wr.alloc (.cells cs e)) B t o.type e i0 z size bytes ht hi hz0 hz1 hz2 hzs hsz v n xs (hown.alloc _) ⟨wr.heap.size, 0, none⟩ m c cs.toList (by simpa using hl) (World.news_of_block (heap_alloc_new wr _)) h1 (by unfold maxLen; omega) (by omega) (by simp; omega)
  unfold Oper.wp execOp
  simp only [ho, resolve, invoke, builtin, Sem.run_bind, Sem.run_pure, Result.andThen_ok, List.map_toArray, List.map_cons, List.map_nil, hs, hx, hr]
  exact h v' w' h2 ((hbel.alloc hbase _).grown h3 (by simp; omega) (fun k hk => (hown.lt k hk).1)) h3 (h5.imp id fun h9 => by rw [h9]; simp)

theorem keepArc {w1 wa wb : World} {b : Nat} {v0 v1 v2 v3 v4 v5 : Value} (h : (True ∧ Below w1.heap.size w1 wa ∧ b < wa.heap.size) ∧ wa.cell? ⟨b, 0, none⟩ = some v0 ∧ wa.cell? ⟨b, 1, none⟩ = some v1 ∧ wa.cell? ⟨b, 2, none⟩ = some v2 ∧ wa.cell? ⟨b, 3, none⟩ = some v3 ∧ wa.cell? ⟨b, 4, none⟩ = some v4 ∧ wa.cell? ⟨b, 5, none⟩ = some v5) (hb : Below wa.heap.size wa wb) :
    (True ∧ Below w1.heap.size w1 wb ∧ b < wb.heap.size) ∧ wb.cell? ⟨b, 0, none⟩ = some v0 ∧ wb.cell? ⟨b, 1, none⟩ = some v1 ∧ wb.cell? ⟨b, 2, none⟩ = some v2 ∧ wb.cell? ⟨b, 3, none⟩ = some v3 ∧ wb.cell? ⟨b, 4, none⟩ = some v4 ∧ wb.cell? ⟨b, 5, none⟩ = some v5 := by
  obtain ⟨⟨-, h1, h2⟩, k0, k1, k2, k3, k4, k5⟩ := h
  exact ⟨⟨trivial, below_up h1 h1.size hb, Nat.lt_of_lt_of_le h2 hb.size⟩, (hb.cell (p := ⟨b, 0, none⟩) h2).trans k0, (hb.cell (p := ⟨b, 1, none⟩) h2).trans k1, (hb.cell (p := ⟨b, 2, none⟩) h2).trans k2, (hb.cell (p := ⟨b, 3, none⟩) h2).trans k3, (hb.cell (p := ⟨b, 4, none⟩) h2).trans k4, (hb.cell (p := ⟨b, 5, none⟩) h2).trans k5⟩
theorem keepArcG {w1 wa wb : World} {b : Nat} {row : Option Nat} {v0 v1 v2 v3 v4 v5 : Value} (h : (True ∧ Below w1.heap.size w1 wa ∧ b < wa.heap.size) ∧ wa.cell? ⟨b, 0, none⟩ = some v0 ∧ wa.cell? ⟨b, 1, none⟩ = some v1 ∧ wa.cell? ⟨b, 2, none⟩ = some v2 ∧ wa.cell? ⟨b, 3, none⟩ = some v3 ∧ wa.cell? ⟨b, 4, none⟩ = some v4 ∧ wa.cell? ⟨b, 5, none⟩ = some v5) (hg : wa.grownBy wb row) (hne : some b ≠ row) (hw : Below w1.heap.size w1 wb) :
    (True ∧ Below w1.heap.size w1 wb ∧ b < wb.heap.size) ∧ wb.cell? ⟨b, 0, none⟩ = some v0 ∧ wb.cell? ⟨b, 1, none⟩ = some v1 ∧ wb.cell? ⟨b, 2, none⟩ = some v2 ∧ wb.cell? ⟨b, 3, none⟩ = some v3 ∧ wb.cell? ⟨b, 4, none⟩ = some v4 ∧ wb.cell? ⟨b, 5, none⟩ = some v5 := by
  obtain ⟨⟨-, h1, h2⟩, k0, k1, k2, k3, k4, k5⟩ := h
  have hb := hg.block b h2 hne
  exact ⟨⟨trivial, hw, Nat.lt_of_lt_of_le h2 hg.size⟩, (World.cell?_of_block (a := ⟨b, 0, none⟩) hb).trans k0, (World.cell?_of_block (a := ⟨b, 1, none⟩) hb).trans k1, (World.cell?_of_block (a := ⟨b, 2, none⟩) hb).trans k2, (World.cell?_of_block (a := ⟨b, 3, none⟩) hb).trans k3, (World.cell?_of_block (a := ⟨b, 4, none⟩) hb).trans k4, (World.cell?_of_block (a := ⟨b, 5, none⟩) hb).trans k5⟩

theorem infoArc : (Try.prog.info? 88).map (fun i => (i.zero, i.size, i.bytes)) = some (some (.agg #[.int .i64 0, .int .i64 0, .int .i64 0, .int .i64 0, .int .i64 0, .int .i64 0]), 6, 48) := by kernel_rfl
def arcV (l : List DArc) : List Value := (l.map DArc.cells).flatten
theorem arcV_take {l : List DArc} {k : Nat} {x : DArc} (h : l[k]? = some x) : arcV (l.take k) ++ x.cells = arcV (l.take (k + 1)) := by
  unfold arcV
  rw [List.take_add_one, h, List.map_append, List.flatten_append]
  simp
theorem arcV_rows {w : World} {B g cc n : Nat} {l : List DArc} (h : w.ownsRow B 88 6 (.slice (some ⟨g, 0, none⟩) n cc) n (arcV l)) (hn : l.length = n) : RowsAt w 6 (some ⟨g, 0, none⟩) (l.map DArc.cells) := rows_own h (by simpa using hn) (cellsArc_len l)
/-- a row of arcs and a good code -/
def RetArcs (w : World) (l : List DArc) (n : Nat) (e : Ending) (w' : World) : Prop := ∃ g cc, e = .returned (.tuple #[.slice (some ⟨g, 0, none⟩) n cc, .int .i64 0]) ∧ w'.ownsRow w.heap.size 88 6 (.slice (some ⟨g, 0, none⟩) n cc) n (arcV l) ∧ Below w.heap.size w w'
def ArcsAt (w1 : World) (l : List DArc) (k : Nat) (v : Value) (wr : World) : Prop := ∃ g cc, v = .slice (some ⟨g, 0, none⟩) k cc ∧ wr.ownsRow w1.heap.size 88 6 (.slice (some ⟨g, 0, none⟩) k cc) k (arcV (l.take k)) ∧ Below w1.heap.size w1 wr
theorem ArcsAt.start (w1 : World) (l : List DArc) : ArcsAt w1 l 0 (.slice (some ⟨w1.heap.size, 0, none⟩) 0 0) (w1.alloc (.cells #[] 88)) :=
  ⟨_, _, rfl, World.ownsRow_lit _ _ 0 (Nat.le_refl _) (by unfold maxLen; omega) rfl, below_alloc _ _⟩
theorem ArcsAt.of {w1 w' : World} {l : List DArc} {k : Nat} {v : Value} {x : DArc} {cs : List Value} (hx : l[k]? = some x) (hcs : x.cells = cs) (ho : w'.ownsRow w1.heap.size 88 6 v (k + 1) (arcV (l.take k) ++ cs)) (hb : Below w1.heap.size w1 w') : ArcsAt w1 l (k + 1) v w' := by
  subst hcs
  rw [arcV_take hx] at ho
  obtain ⟨g, cc, rfl, -⟩ := own_form ho (by omega)
  exact ⟨g, cc, rfl, ho, hb⟩
theorem ValidOutline_n (A : Option Addr) (c n : Nat) (xs : List DArc) (w : World) (hA : RowsAt w 6 A (xs.map DArc.cells)) (hX : OutOk xs) (hn : xs.length = n) :
    Calls Try.prog 56 #[.slice A n c] w fun e w' => e = .returned (.bool true) ∧ Below w.heap.size w w' := by
  subst hn
  exact ValidOutline_ok A c xs w hA hX

set_option maxHeartbeats 1600000 in
set_option maxRecDepth 100000 in
theorem MoveOutline_ok (A : Option Addr) (c : Nat) (xs : List DArc) (w : World) (hA : RowsAt w 6 A (xs.map DArc.cells)) (hX : OutOk xs) (p q : Int) (hs : ∀ x ∈ xs, ArcS x) (hp : -1500 ≤ p ∧ p ≤ 1500) (hq : -1500 ≤ q ∧ q ≤ 1500) :
    Calls Try.prog 51 #[.slice A xs.length c, .int .i64 p, .int .i64 q] w (RetArcs w (movL p q xs) xs.length) := by
  have HA := hid hA
  have HX := hid hX
  have HY := hid (outOk_mov hX hs hp hq)
  have hn2 := hX.n2
  have hn16 := hX.n16
  have hp' : InC p := by unfold InC; omega
  have hq' : InC q := by unfold InC; omega
  clear hA hX hs hp hq
  go_enter Try.func51, Try.ntmps51
  go_wp2_with fail
  refine (ValidOutline_ok A c xs _ HA.out HX.out).mono ?_
  rintro e w1 ⟨rfl, hb1⟩
  have HB1 := hid hb1
  clear hb1
  go_wp2_with fail
  refine (isCoord_ok p _ hp').mono ?_
  rintro e w2 ⟨rfl, rfl⟩
  go_wp2_with fail
  refine (isCoord_ok q _ hq').mono ?_
  rintro e w2 ⟨rfl, rfl⟩
  go_wp2_with fail
  go_loopw [8, 25] (fun v i wr => ∃ k : Nat, k ≤ xs.length ∧ i = .int .i64 (k : Int) ∧ ArcsAt w1 (movL p q xs) k v wr) (fun _ i _ => xs.length - (intOf i).toNat)
  case atStart => exact ⟨0, Nat.zero_le _, rfl, ArcsAt.start w1 _⟩
  case round =>
    obtain ⟨k, hk, rfl, g, cc, rfl, hown, hbel⟩ := hrel
    have HO := hid hown
    have HB := hid hbel
    clear hown hbel
    by_cases hkl : k < xs.length
    · obtain ⟨x, hx⟩ : ∃ x, xs[k]? = some x := ⟨_, List.getElem?_eq_getElem hkl⟩
      have HXB := hid (HX.out.arcs x (List.mem_of_getElem? hx)).bd
      have HL := hid (show (movL p q xs)[k]? = some (movA p q x) by unfold movL; rw [List.getElem?_map, hx]; rfl)
      have hAW := (HA.out.below HB1.out).below HB.out
      obtain ⟨ab, ao, rfl, hAt⟩ := ArcAt.of_rows hAW hx
      obtain ⟨hl0, x0, x1, x2, x3, x4, x5⟩ := hAt
      have HN := hid (ArcAt.new wr x 88)
      obtain ⟨hl, z0, z1, z2, z3, z4, z5⟩ := HN.out
      have OW := hid (own_below (own_below HO.out (below_alloc wr (.cells #[.int .i64 x.cx, .int .i64 x.cy, .int .i64 x.fx, .int .i64 x.fy, .int .i64 x.tx, .int .i64 x.ty] 88))) (Below.refl _ _).drew)
      have hne1 : some wr.heap.size ≠ (Value.slice (some ⟨g, 0, none⟩) k cc).ownBlock := fun e => by
        have h1 := (HO.out.lt g rfl).2
        have h2 : some wr.heap.size = some g := e
        injection h2 with h2
        omega
      have q0 : (0 : Int) ≤ (k : Int) := by omega
      have q1 : (k : Int) < xs.length := by omega
      clear hx hAW
      go_upto_region 9 with fail
      refine wp_region_held_drew (S := (fun w' => (True ∧ Below w1.heap.size w1 w' ∧ wr.heap.size < w'.heap.size) ∧ w'.cell? ⟨wr.heap.size, 0, none⟩ = some (.int .i64 x.cx) ∧ w'.cell? ⟨wr.heap.size, 1, none⟩ = some (.int .i64 x.cy) ∧ w'.cell? ⟨wr.heap.size, 2, none⟩ = some (.int .i64 x.fx) ∧ w'.cell? ⟨wr.heap.size, 3, none⟩ = some (.int .i64 x.fy) ∧ w'.cell? ⟨wr.heap.size, 4, none⟩ = some (.int .i64 x.tx) ∧ w'.cell? ⟨wr.heap.size, 5, none⟩ = some (.int .i64 x.ty))) (by kernel_rfl) ⟨⟨trivial, (below_trans HB.out (below_alloc wr (.cells #[.int .i64 x.cx, .int .i64 x.cy, .int .i64 x.fx, .int .i64 x.fy, .int .i64 x.tx, .int .i64 x.ty] 88))).drew, hl⟩, z0, z1, z2, z3, z4, z5⟩ (fun hHeld => ?_)
      refine wpAnyH_take (i := 0) (oi := ⟨some 29, _, _, _, _, _⟩) (v := ?_) rfl (by kernel_rfl) (by kernel_rfl) (by kernel_rfl) (fun _ _ _ h => h) (Or.inl ⟨by rfl, ?_⟩) (by assumption) ?_
      rotate_left
      · (intro w hSw; (try dsimp only at hSw); go_simp; try with_reducible rfl)
      try simp only [Act.put, List.setIfInBounds_toArray, List.set_cons_zero, List.set_cons_succ]
      refine wpAnyH_take (i := 1) (oi := ⟨some 30, _, _, _, _, _⟩) (v := ?_) rfl (by kernel_rfl) (by kernel_rfl) (by kernel_rfl) (fun _ _ _ h => h) (Or.inl ⟨by rfl, ?_⟩) (by assumption) ?_
      rotate_left
      · (intro w hSw; (try dsimp only at hSw); go_simp; try with_reducible rfl)
      try simp only [Act.put, List.setIfInBounds_toArray, List.set_cons_zero, List.set_cons_succ]
      refine wpAnyH_take (i := 2) (oi := ⟨some 31, _, _, _, _, _⟩) (v := ?_) rfl (by kernel_rfl) (by kernel_rfl) (by kernel_rfl) (fun _ _ _ h => h) (Or.inl ⟨by rfl, ?_⟩) (by assumption) ?_
      rotate_left
      · (intro w hSw; (try dsimp only at hSw); go_simp; try with_reducible rfl)
      try simp only [Act.put, List.setIfInBounds_toArray, List.set_cons_zero, List.set_cons_succ]
      refine wpAnyH_take (i := 3) (oi := ⟨some 32, _, _, _, _, _⟩) (v := ?_) rfl (by kernel_rfl) (by kernel_rfl) (by kernel_rfl) (fun _ _ _ h => h) (Or.inl ⟨by rfl, ?_⟩) (by assumption) ?_
      rotate_left
      · (intro w hSw; (try dsimp only at hSw); go_simp; try with_reducible rfl)
      try simp only [Act.put, List.setIfInBounds_toArray, List.set_cons_zero, List.set_cons_succ]
      refine wpAnyH_take (i := 4) (oi := ⟨some 33, _, _, _, _, _⟩) (v := ?_) rfl (by kernel_rfl) (by kernel_rfl) (by kernel_rfl) (fun _ _ _ h => h) (Or.inl ⟨by rfl, ?_⟩) (by assumption) ?_
      rotate_left
      · (intro w hSw; (try dsimp only at hSw); go_simp; try with_reducible rfl)
      try simp only [Act.put, List.setIfInBounds_toArray, List.set_cons_zero, List.set_cons_succ]
      refine wpAnyH_take (i := 6) (oi := ⟨some 35, _, _, _, _, _⟩) (v := ?_) rfl (by kernel_rfl) (by kernel_rfl) (by kernel_rfl) (fun _ _ _ h => h) (Or.inl ⟨by rfl, ?_⟩) (by assumption) ?_
      rotate_left
      · (intro w hSw; (try dsimp only at hSw); go_simp; try with_reducible rfl)
      try simp only [Act.put, List.setIfInBounds_toArray, List.set_cons_zero, List.set_cons_succ]
      refine wpAnyH_take (i := 7) (oi := ⟨some 36, _, _, _, _, _⟩) (v := ?_) rfl (by kernel_rfl) (by kernel_rfl) (by kernel_rfl) (fun _ _ _ h => h) (Or.inl ⟨by rfl, ?_⟩) (by assumption) ?_
      rotate_left
      · (intro w hSw; (try dsimp only at hSw); go_simp; try with_reducible rfl)
      try simp only [Act.put, List.setIfInBounds_toArray, List.set_cons_zero, List.set_cons_succ]
      refine wpAnyH_take (i := 8) (oi := ⟨some 37, _, _, _, _, _⟩) (v := ?_) rfl (by kernel_rfl) (by kernel_rfl) (by kernel_rfl) (fun _ _ _ h => h) (Or.inl ⟨by rfl, ?_⟩) (by assumption) ?_
      rotate_left
      · (intro w hSw; (try dsimp only at hSw); go_simp; try with_reducible rfl)
      try simp only [Act.put, List.setIfInBounds_toArray, List.set_cons_zero, List.set_cons_succ]
      refine wpAnyH_take (i := 9) (oi := ⟨some 38, _, _, _, _, _⟩) (v := ?_) rfl (by kernel_rfl) (by kernel_rfl) (by kernel_rfl) (fun _ _ _ h => h) (Or.inl ⟨by rfl, ?_⟩) (by assumption) ?_
      rotate_left
      · (intro w hSw; (try dsimp only at hSw); go_simp; try with_reducible rfl)
      try simp only [Act.put, List.setIfInBounds_toArray, List.set_cons_zero, List.set_cons_succ]
      refine wpAnyH_take (i := 11) (oi := ⟨some 40, _, _, _, _, _⟩) (v := ?_) rfl (by kernel_rfl) (by kernel_rfl) (by kernel_rfl) (fun _ _ _ h => h) (Or.inl ⟨by rfl, ?_⟩) (by assumption) ?_
      rotate_left
      · (intro w hSw; (try dsimp only at hSw); go_simp; try with_reducible rfl)
      try simp only [Act.put, List.setIfInBounds_toArray, List.set_cons_zero, List.set_cons_succ]
      refine wpAnyH_take (i := 12) (oi := ⟨some 41, _, _, _, _, _⟩) (v := ?_) rfl (by kernel_rfl) (by kernel_rfl) (by kernel_rfl) (fun _ _ _ h => h) (Or.inl ⟨by rfl, ?_⟩) (by assumption) ?_
      rotate_left
      · (intro w hSw; (try dsimp only at hSw); go_simp; try with_reducible rfl)
      try simp only [Act.put, List.setIfInBounds_toArray, List.set_cons_zero, List.set_cons_succ]
      refine wpAnyH_take (i := 13) (oi := ⟨some 42, _, _, _, _, _⟩) (v := ?_) rfl (by kernel_rfl) (by kernel_rfl) (by kernel_rfl) (fun _ _ _ h => h) (Or.inl ⟨by rfl, ?_⟩) (by assumption) ?_
      rotate_left
      · (intro w hSw; (try dsimp only at hSw); go_simp; try with_reducible rfl)
      try simp only [Act.put, List.setIfInBounds_toArray, List.set_cons_zero, List.set_cons_succ]
      refine wpAnyH_take (i := 14) (oi := ⟨some 43, _, _, _, _, _⟩) (v := ?_) rfl (by kernel_rfl) (by kernel_rfl) (by kernel_rfl) (fun _ _ _ h => h) (Or.inl ⟨by rfl, ?_⟩) (by assumption) ?_
      rotate_left
      · (intro w hSw; (try dsimp only at hSw); go_simp; try with_reducible rfl)
      try simp only [Act.put, List.setIfInBounds_toArray, List.set_cons_zero, List.set_cons_succ]
      refine wpAnyH_ready (rs := [5]) (by kernel_rfl) (by simp) ?_
      refine AllReadyH.cons (o := ⟨some 34, _, _, _, _, _⟩) rfl (fun K hK => ?_) AllReadyH.nil
      go_simp
      go_at_call 121; refine (moved_ok x.cx x.cy p q HXB.out.cx HXB.out.cy hp' hq' _).mono ?_; rintro e w6 ⟨rfl, hb6⟩
      (try go_wp2_with fail)
      refine hK.out _ _ (keepArc hHeld hb6) (fun hHeld => ?_)
      clear hK K
      have OW := hid (own_below OW.out hb6)
      clear hb6
      try simp only [Act.put, List.setIfInBounds_toArray, List.set_cons_zero, List.set_cons_succ]
      refine wpAnyH_ready (rs := [10]) (by kernel_rfl) (by simp) ?_
      refine AllReadyH.cons (o := ⟨some 39, _, _, _, _, _⟩) rfl (fun K hK => ?_) AllReadyH.nil
      go_simp
      go_at_call 121; refine (moved_ok x.fx x.fy p q HXB.out.fx HXB.out.fy hp' hq' _).mono ?_; rintro e w6 ⟨rfl, hb6⟩
      (try go_wp2_with fail)
      refine hK.out _ _ (keepArc hHeld hb6) (fun hHeld => ?_)
      clear hK K
      have OW := hid (own_below OW.out hb6)
      clear hb6
      try simp only [Act.put, List.setIfInBounds_toArray, List.set_cons_zero, List.set_cons_succ]
      refine wpAnyH_ready (rs := [15]) (by kernel_rfl) (by simp) ?_
      refine AllReadyH.cons (o := ⟨some 44, _, _, _, _, _⟩) rfl (fun K hK => ?_) AllReadyH.nil
      go_simp
      go_at_call 121; refine (moved_ok x.tx x.ty p q HXB.out.tx HXB.out.ty hp' hq' _).mono ?_; rintro e w6 ⟨rfl, hb6⟩
      (try go_wp2_with fail)
      refine hK.out _ _ (keepArc hHeld hb6) (fun hHeld => ?_)
      clear hK K
      have OW := hid (own_below OW.out hb6)
      clear hb6
      try simp only [Act.put, List.setIfInBounds_toArray, List.set_cons_zero, List.set_cons_succ]
      refine wpAnyH_take (i := 16) (oi := ⟨some 45, _, _, _, _, _⟩) (v := ?_) rfl (by kernel_rfl) (by kernel_rfl) (by kernel_rfl) (fun _ _ _ h => h) (Or.inl ⟨by rfl, ?_⟩) (by assumption) ?_
      rotate_left
      · (intro w hSw; (try dsimp only at hSw); go_simp; try with_reducible rfl)
      try simp only [Act.put, List.setIfInBounds_toArray, List.set_cons_zero, List.set_cons_succ]
      refine wpAnyH_ready (rs := [17]) (by kernel_rfl) (by simp) ?_
      refine AllReadyH.cons (o := ⟨some 46, _, _, _, _, _⟩) rfl (fun K hK => ?_) AllReadyH.nil
      have BW := hid hHeld.1.2.1
      go_simp
      refine hK.out _ _ (keepArc hHeld (below_alloc _ _)) (fun hHeld => ?_)
      clear hK K
      try simp only [Act.put, List.setIfInBounds_toArray, List.set_cons_zero, List.set_cons_succ]
      refine wpAnyH_ready (rs := [18]) (by kernel_rfl) (by simp) ?_
      refine AllReadyH.cons (o := ⟨some 47, _, _, _, _, _⟩) rfl (fun K hK => ?_) AllReadyH.nil
      refine step_appO (w0 := w1) (wr := w6) rfl (.tmp 29) (.tmp 46) 73 rfl w1.heap.size 88 (.agg #[.int .i64 0, .int .i64 0, .int .i64 0, .int .i64 0, .int .i64 0, .int .i64 0]) 6 48 Try.underlying73 infoArc rfl (by decide) (.slice (some ⟨g, 0, none⟩) k cc) k _ (by first | rfl | simp [Act.eval]) OW.out #[.int .i64 (x.cx + p), .int .i64 (x.cy + q), .int .i64 (x.fx + p), .int .i64 (x.fy + q), .int .i64 (x.tx + p), .int .i64 (x.ty + q)] 1 1 (by first | rfl | simp [Act.eval]) rfl (by simp [Value.oneCell']) (by omega) BW.out.size BW.out ?_
      intro v1 w9 hown1 hbel1 hgr1 _
      refine hK.out _ _ (keepArcG hHeld hgr1 hne1 hbel1) (fun hHeld => ?_)
      clear hK K
      try simp only [Act.put, List.setIfInBounds_toArray, List.set_cons_zero, List.set_cons_succ]
      refine wpAnyH_take (i := 19) (oi := ⟨some 8, _, _, _, _, _⟩) (v := ?_) rfl (by kernel_rfl) (by kernel_rfl) (by kernel_rfl) (fun _ _ _ h => h) (Or.inl ⟨by rfl, ?_⟩) (by assumption) ?_
      rotate_left
      · (intro w hSw; (try dsimp only at hSw); go_simp; try with_reducible rfl)
      try simp only [Act.put, List.setIfInBounds_toArray, List.set_cons_zero, List.set_cons_succ]
      refine wpAnyH_done (by kernel_rfl) ?_ _
      clear hHeld x0 x1 x2 x3 x4 x5 z0 z1 z2 z3 z4 z5 hl hgr1 hne1
      have HC := hid (ArcsAt.of HL.out rfl hown1 hbel1)
      obtain ⟨g9, c9, rfl, -⟩ := own_form hown1 (by omega)
      clear hown1 hbel1
      go_wp2_with fail
      go_roundw
      case rel => exact ⟨k + 1, by omega, by go_num, HC.out⟩
      case measure => simp [intOf]; omega
    · have hk2 : k = xs.length := by omega
      subst hk2
      have q1 : ¬ (xs.length : Int) < xs.length := by omega
      have HO2 := hid (show wr.ownsRow w1.heap.size 88 6 (.slice (some ⟨g, 0, none⟩) xs.length cc) xs.length (arcV (movL p q xs)) by
        have h := HO.out
        rw [List.take_of_length_le (by rw [movL_len]; exact Nat.le_refl _)] at h
        exact h)
      go_wp2_with fail
      refine (ValidOutline_n _ _ xs.length (movL p q xs) _ (arcV_rows HO2.out (movL_len p q xs)) HY.out (movL_len p q xs)).mono ?_
      rintro e w3 ⟨rfl, hb3⟩
      have HO3 := hid (own_mono (own_below HO2.out hb3) HB1.out.size)
      have HB3 := hid (below_trans (below_trans HB1.out HB.out) hb3)
      clear hb3
      go_wp2_with fail
      go_ret2
      exact ⟨g, cc, rfl, HO3.out, HB3.out⟩

set_option maxHeartbeats 1600000 in
set_option maxRecDepth 100000 in
theorem MirrorOutline_ok (A : Option Addr) (c : Nat) (xs : List DArc) (w : World) (hA : RowsAt w 6 A (xs.map DArc.cells)) (hX : OutOk xs) :
    Calls Try.prog 52 #[.slice A xs.length c] w (RetArcs w (mirL xs) xs.length) := by
  have HA := hid hA
  have HX := hid hX
  have hn2 := hX.n2
  have hn16 := hX.n16
  clear hA hX
  go_enter Try.func52, Try.ntmps52
  go_wp2_with fail
  refine (ValidOutline_ok A c xs _ HA.out HX.out).mono ?_
  rintro e w1 ⟨rfl, hb1⟩
  have HB1 := hid hb1
  clear hb1
  go_wp2_with fail
  go_loopw [4, 5] (fun v i wr => ∃ k m : Nat, k + m = xs.length ∧ i = .int .i64 ((m : Int) - 1) ∧ ArcsAt w1 (mirL xs) k v wr) (fun _ i _ => (intOf i + 1).toNat)
  case atStart => exact ⟨0, xs.length, Nat.zero_add _, rfl, ArcsAt.start w1 _⟩
  case round =>
    obtain ⟨k, m, hkm, rfl, g, cc, rfl, hown, hbel⟩ := hrel
    have HO := hid hown
    have HB := hid hbel
    have HK := hid hkm
    have hk16 : k ≤ 16 := by omega
    have hm16 : m ≤ 16 := by omega
    clear hown hbel hkm
    cases m with
    | succ m =>
      rw [show ((m + 1 : Nat) : Int) - 1 = (m : Int) by omega]
      have hml : m < xs.length := by have := HK.out; omega
      obtain ⟨x, hx⟩ : ∃ x, xs[m]? = some x := ⟨_, List.getElem?_eq_getElem hml⟩
      have HXB := hid (HX.out.arcs x (List.mem_of_getElem? hx)).bd
      have HL := hid (show (mirL xs)[k]? = some (mirA x) by
        have := HK.out
        rw [mirL_at (by omega), show xs.length - 1 - k = m by omega, hx]
        rfl)
      have hAW := (HA.out.below HB1.out).below HB.out
      obtain ⟨ab, ao, rfl, hAt⟩ := ArcAt.of_rows hAW hx
      obtain ⟨hl0, x0, x1, x2, x3, x4, x5⟩ := hAt
      have HN := hid (ArcAt.new wr x 88)
      obtain ⟨hl, z0, z1, z2, z3, z4, z5⟩ := HN.out
      have OW := hid (own_below (own_below HO.out (below_alloc wr (.cells #[.int .i64 x.cx, .int .i64 x.cy, .int .i64 x.fx, .int .i64 x.fy, .int .i64 x.tx, .int .i64 x.ty] 88))) (Below.refl _ _).drew)
      have hne1 : some wr.heap.size ≠ (Value.slice (some ⟨g, 0, none⟩) k cc).ownBlock := fun e => by
        have h1 := (HO.out.lt g rfl).2
        have h2 : some wr.heap.size = some g := e
        injection h2 with h2
        omega
      have q0 : (0 : Int) ≤ (m : Int) := by omega
      have q1 : (m : Int) < xs.length := by omega
      clear hx hAW
      go_upto_region 8 with fail
      refine wp_region_held_drew (S := (fun w' => (True ∧ Below w1.heap.size w1 w' ∧ wr.heap.size < w'.heap.size) ∧ w'.cell? ⟨wr.heap.size, 0, none⟩ = some (.int .i64 x.cx) ∧ w'.cell? ⟨wr.heap.size, 1, none⟩ = some (.int .i64 x.cy) ∧ w'.cell? ⟨wr.heap.size, 2, none⟩ = some (.int .i64 x.fx) ∧ w'.cell? ⟨wr.heap.size, 3, none⟩ = some (.int .i64 x.fy) ∧ w'.cell? ⟨wr.heap.size, 4, none⟩ = some (.int .i64 x.tx) ∧ w'.cell? ⟨wr.heap.size, 5, none⟩ = some (.int .i64 x.ty))) (by kernel_rfl) ⟨⟨trivial, (below_trans HB.out (below_alloc wr (.cells #[.int .i64 x.cx, .int .i64 x.cy, .int .i64 x.fx, .int .i64 x.fy, .int .i64 x.tx, .int .i64 x.ty] 88))).drew, hl⟩, z0, z1, z2, z3, z4, z5⟩ (fun hHeld => ?_)
      refine wpAnyH_take (i := 0) (oi := ⟨some 22, _, _, _, _, _⟩) (v := ?_) rfl (by kernel_rfl) (by kernel_rfl) (by kernel_rfl) (fun _ _ _ h => h) (Or.inl ⟨by rfl, ?_⟩) (by assumption) ?_
      rotate_left
      · (intro w hSw; (try dsimp only at hSw); go_simp; try with_reducible rfl)
      try simp only [Act.put, List.setIfInBounds_toArray, List.set_cons_zero, List.set_cons_succ]
      refine wpAnyH_take (i := 1) (oi := ⟨some 23, _, _, _, _, _⟩) (v := ?_) rfl (by kernel_rfl) (by kernel_rfl) (by kernel_rfl) (fun _ _ _ h => h) (Or.inl ⟨by rfl, ?_⟩) (by assumption) ?_
      rotate_left
      · (intro w hSw; (try dsimp only at hSw); go_simp; try with_reducible rfl)
      try simp only [Act.put, List.setIfInBounds_toArray, List.set_cons_zero, List.set_cons_succ]
      refine wpAnyH_take (i := 2) (oi := ⟨some 24, _, _, _, _, _⟩) (v := ?_) rfl (by kernel_rfl) (by kernel_rfl) (by kernel_rfl) (fun _ _ _ h => h) (Or.inl ⟨by rfl, ?_⟩) (by assumption) ?_
      rotate_left
      · (intro w hSw; (try dsimp only at hSw); go_simp; try with_reducible rfl)
      try simp only [Act.put, List.setIfInBounds_toArray, List.set_cons_zero, List.set_cons_succ]
      refine wpAnyH_take (i := 4) (oi := ⟨some 26, _, _, _, _, _⟩) (v := ?_) rfl (by kernel_rfl) (by kernel_rfl) (by kernel_rfl) (fun _ _ _ h => h) (Or.inl ⟨by rfl, ?_⟩) (by assumption) ?_
      rotate_left
      · (intro w hSw; (try dsimp only at hSw); go_simp; try with_reducible rfl)
      try simp only [Act.put, List.setIfInBounds_toArray, List.set_cons_zero, List.set_cons_succ]
      refine wpAnyH_take (i := 5) (oi := ⟨some 27, _, _, _, _, _⟩) (v := ?_) rfl (by kernel_rfl) (by kernel_rfl) (by kernel_rfl) (fun _ _ _ h => h) (Or.inl ⟨by rfl, ?_⟩) (by assumption) ?_
      rotate_left
      · (intro w hSw; (try dsimp only at hSw); go_simp; try with_reducible rfl)
      try simp only [Act.put, List.setIfInBounds_toArray, List.set_cons_zero, List.set_cons_succ]
      refine wpAnyH_take (i := 7) (oi := ⟨some 29, _, _, _, _, _⟩) (v := ?_) rfl (by kernel_rfl) (by kernel_rfl) (by kernel_rfl) (fun _ _ _ h => h) (Or.inl ⟨by rfl, ?_⟩) (by assumption) ?_
      rotate_left
      · (intro w hSw; (try dsimp only at hSw); go_simp; try with_reducible rfl)
      try simp only [Act.put, List.setIfInBounds_toArray, List.set_cons_zero, List.set_cons_succ]
      refine wpAnyH_take (i := 8) (oi := ⟨some 30, _, _, _, _, _⟩) (v := ?_) rfl (by kernel_rfl) (by kernel_rfl) (by kernel_rfl) (fun _ _ _ h => h) (Or.inl ⟨by rfl, ?_⟩) (by assumption) ?_
      rotate_left
      · (intro w hSw; (try dsimp only at hSw); go_simp; try with_reducible rfl)
      try simp only [Act.put, List.setIfInBounds_toArray, List.set_cons_zero, List.set_cons_succ]
      refine wpAnyH_ready (rs := [3]) (by kernel_rfl) (by simp) ?_
      refine AllReadyH.cons (o := ⟨some 25, _, _, _, _, _⟩) rfl (fun K hK => ?_) AllReadyH.nil
      go_simp
      go_at_call 122; refine (mirrored_ok x.cx x.cy HXB.out.cx HXB.out.cy _).mono ?_; rintro e w6 ⟨rfl, hb6⟩
      (try go_wp2_with fail)
      refine hK.out _ _ (keepArc hHeld hb6) (fun hHeld => ?_)
      clear hK K
      have OW := hid (own_below OW.out hb6)
      clear hb6
      try simp only [Act.put, List.setIfInBounds_toArray, List.set_cons_zero, List.set_cons_succ]
      refine wpAnyH_ready (rs := [6]) (by kernel_rfl) (by simp) ?_
      refine AllReadyH.cons (o := ⟨some 28, _, _, _, _, _⟩) rfl (fun K hK => ?_) AllReadyH.nil
      go_simp
      go_at_call 122; refine (mirrored_ok x.tx x.ty HXB.out.tx HXB.out.ty _).mono ?_; rintro e w6 ⟨rfl, hb6⟩
      (try go_wp2_with fail)
      refine hK.out _ _ (keepArc hHeld hb6) (fun hHeld => ?_)
      clear hK K
      have OW := hid (own_below OW.out hb6)
      clear hb6
      try simp only [Act.put, List.setIfInBounds_toArray, List.set_cons_zero, List.set_cons_succ]
      refine wpAnyH_ready (rs := [9]) (by kernel_rfl) (by simp) ?_
      refine AllReadyH.cons (o := ⟨some 31, _, _, _, _, _⟩) rfl (fun K hK => ?_) AllReadyH.nil
      go_simp
      go_at_call 122; refine (mirrored_ok x.fx x.fy HXB.out.fx HXB.out.fy _).mono ?_; rintro e w6 ⟨rfl, hb6⟩
      (try go_wp2_with fail)
      refine hK.out _ _ (keepArc hHeld hb6) (fun hHeld => ?_)
      clear hK K
      have OW := hid (own_below OW.out hb6)
      clear hb6
      try simp only [Act.put, List.setIfInBounds_toArray, List.set_cons_zero, List.set_cons_succ]
      refine wpAnyH_take (i := 10) (oi := ⟨some 32, _, _, _, _, _⟩) (v := ?_) rfl (by kernel_rfl) (by kernel_rfl) (by kernel_rfl) (fun _ _ _ h => h) (Or.inl ⟨by rfl, ?_⟩) (by assumption) ?_
      rotate_left
      · (intro w hSw; (try dsimp only at hSw); go_simp; try with_reducible rfl)
      try simp only [Act.put, List.setIfInBounds_toArray, List.set_cons_zero, List.set_cons_succ]
      refine wpAnyH_ready (rs := [11]) (by kernel_rfl) (by simp) ?_
      refine AllReadyH.cons (o := ⟨some 33, _, _, _, _, _⟩) rfl (fun K hK => ?_) AllReadyH.nil
      have BW := hid hHeld.1.2.1
      go_simp
      refine hK.out _ _ (keepArc hHeld (below_alloc _ _)) (fun hHeld => ?_)
      clear hK K
      try simp only [Act.put, List.setIfInBounds_toArray, List.set_cons_zero, List.set_cons_succ]
      refine wpAnyH_ready (rs := [12]) (by kernel_rfl) (by simp) ?_
      refine AllReadyH.cons (o := ⟨some 34, _, _, _, _, _⟩) rfl (fun K hK => ?_) AllReadyH.nil
      refine step_appO (w0 := w1) (wr := w6) rfl (.tmp 22) (.tmp 33) 73 rfl w1.heap.size 88 (.agg #[.int .i64 0, .int .i64 0, .int .i64 0, .int .i64 0, .int .i64 0, .int .i64 0]) 6 48 Try.underlying73 infoArc rfl (by decide) (.slice (some ⟨g, 0, none⟩) k cc) k _ (by first | rfl | simp [Act.eval]) OW.out #[.int .i64 (-x.cx), .int .i64 (x.cy), .int .i64 (-x.tx), .int .i64 (x.ty), .int .i64 (-x.fx), .int .i64 (x.fy)] 1 1 (by first | rfl | simp [Act.eval]) rfl (by simp [Value.oneCell']) (by omega) BW.out.size BW.out ?_
      intro v1 w9 hown1 hbel1 hgr1 _
      refine hK.out _ _ (keepArcG hHeld hgr1 hne1 hbel1) (fun hHeld => ?_)
      clear hK K
      try simp only [Act.put, List.setIfInBounds_toArray, List.set_cons_zero, List.set_cons_succ]
      refine wpAnyH_take (i := 13) (oi := ⟨some 4, _, _, _, _, _⟩) (v := ?_) rfl (by kernel_rfl) (by kernel_rfl) (by kernel_rfl) (fun _ _ _ h => h) (Or.inl ⟨by rfl, ?_⟩) (by assumption) ?_
      rotate_left
      · (intro w hSw; (try dsimp only at hSw); go_simp; try with_reducible rfl)
      try simp only [Act.put, List.setIfInBounds_toArray, List.set_cons_zero, List.set_cons_succ]
      refine wpAnyH_done (by kernel_rfl) ?_ _
      clear hHeld x0 x1 x2 x3 x4 x5 z0 z1 z2 z3 z4 z5 hl hgr1 hne1
      have HC := hid (ArcsAt.of HL.out rfl hown1 hbel1)
      obtain ⟨g9, c9, rfl, -⟩ := own_form hown1 (by omega)
      clear hown1 hbel1
      go_wp2_with fail
      go_roundw
      case rel => exact ⟨k + 1, m, by have := HK.out; omega, by go_num, HC.out⟩
      case measure => simp [intOf]
    | zero =>
      have hk2 : k = xs.length := by have := HK.out; omega
      subst hk2
      have q1 : ¬ (0 : Int) ≤ ((0 : Nat) : Int) - 1 := by omega
      have HO2 := hid (show wr.ownsRow w1.heap.size 88 6 (.slice (some ⟨g, 0, none⟩) xs.length cc) xs.length (arcV (mirL xs)) by
        have h := HO.out
        rw [List.take_of_length_le (by rw [mirL_len]; exact Nat.le_refl _)] at h
        exact h)
      go_wp2_with fail
      go_ret2
      exact ⟨g, cc, rfl, own_mono HO2.out HB1.out.size, below_trans HB1.out HB.out⟩

set_option maxHeartbeats 1600000 in
set_option maxRecDepth 100000 in
theorem specMirror_ok (A : Option Addr) (c : Nat) (xs : List DArc) (w : World) (hA : RowsAt w 6 A (xs.map DArc.cells)) (hX : OutOk xs) :
    Calls Try.prog 61 #[.slice A xs.length c] w (RetArcs w (mirL xs) xs.length) := by
  have HA := hid hA
  have HX := hid hX
  have hn2 := hX.n2
  have hn16 := hX.n16
  clear hA hX
  go_enter Try.func61, Try.ntmps61
  go_wp2_with fail
  refine (l05Ok_ok A c xs _ HA.out HX.out).mono ?_
  rintro e w1 ⟨rfl, hb1⟩
  have HB1 := hid hb1
  clear hb1
  go_wp2_with fail
  go_loopw [4, 5] (fun v i wr => ∃ k m : Nat, k + m = xs.length ∧ i = .int .i64 ((m : Int) - 1) ∧ ArcsAt w1 (mirL xs) k v wr) (fun _ i _ => (intOf i + 1).toNat)
  case atStart => exact ⟨0, xs.length, Nat.zero_add _, rfl, ArcsAt.start w1 _⟩
  case round =>
    obtain ⟨k, m, hkm, rfl, g, cc, rfl, hown, hbel⟩ := hrel
    have HO := hid hown
    have HB := hid hbel
    have HK := hid hkm
    have hk16 : k ≤ 16 := by omega
    have hm16 : m ≤ 16 := by omega
    clear hown hbel hkm
    cases m with
    | succ m =>
      rw [show ((m + 1 : Nat) : Int) - 1 = (m : Int) by omega]
      have hml : m < xs.length := by have := HK.out; omega
      obtain ⟨x, hx⟩ : ∃ x, xs[m]? = some x := ⟨_, List.getElem?_eq_getElem hml⟩
      have HXB := hid (HX.out.arcs x (List.mem_of_getElem? hx)).bd
      have HL := hid (show (mirL xs)[k]? = some (mirA x) by
        have := HK.out
        rw [mirL_at (by omega), show xs.length - 1 - k = m by omega, hx]
        rfl)
      have hAW := (HA.out.below HB1.out).below HB.out
      obtain ⟨ab, ao, rfl, hAt⟩ := ArcAt.of_rows hAW hx
      obtain ⟨hl0, x0, x1, x2, x3, x4, x5⟩ := hAt
      have HN := hid (ArcAt.new wr x 88)
      obtain ⟨hl, z0, z1, z2, z3, z4, z5⟩ := HN.out
      have OW := hid (own_below (own_below HO.out (below_alloc wr (.cells #[.int .i64 x.cx, .int .i64 x.cy, .int .i64 x.fx, .int .i64 x.fy, .int .i64 x.tx, .int .i64 x.ty] 88))) (Below.refl _ _).drew)
      have hne1 : some wr.heap.size ≠ (Value.slice (some ⟨g, 0, none⟩) k cc).ownBlock := fun e => by
        have h1 := (HO.out.lt g rfl).2
        have h2 : some wr.heap.size = some g := e
        injection h2 with h2
        omega
      have q0 : (0 : Int) ≤ (m : Int) := by omega
      have q1 : (m : Int) < xs.length := by omega
      clear hx hAW
      go_upto_region 8 with fail
      refine wp_region_held_drew (S := (fun w' => (True ∧ Below w1.heap.size w1 w' ∧ wr.heap.size < w'.heap.size) ∧ w'.cell? ⟨wr.heap.size, 0, none⟩ = some (.int .i64 x.cx) ∧ w'.cell? ⟨wr.heap.size, 1, none⟩ = some (.int .i64 x.cy) ∧ w'.cell? ⟨wr.heap.size, 2, none⟩ = some (.int .i64 x.fx) ∧ w'.cell? ⟨wr.heap.size, 3, none⟩ = some (.int .i64 x.fy) ∧ w'.cell? ⟨wr.heap.size, 4, none⟩ = some (.int .i64 x.tx) ∧ w'.cell? ⟨wr.heap.size, 5, none⟩ = some (.int .i64 x.ty))) (by kernel_rfl) ⟨⟨trivial, (below_trans HB.out (below_alloc wr (.cells #[.int .i64 x.cx, .int .i64 x.cy, .int .i64 x.fx, .int .i64 x.fy, .int .i64 x.tx, .int .i64 x.ty] 88))).drew, hl⟩, z0, z1, z2, z3, z4, z5⟩ (fun hHeld => ?_)
      refine wpAnyH_take (i := 0) (oi := ⟨some 22, _, _, _, _, _⟩) (v := ?_) rfl (by kernel_rfl) (by kernel_rfl) (by kernel_rfl) (fun _ _ _ h => h) (Or.inl ⟨by rfl, ?_⟩) (by assumption) ?_
      rotate_left
      · (intro w hSw; (try dsimp only at hSw); go_simp; try with_reducible rfl)
      try simp only [Act.put, List.setIfInBounds_toArray, List.set_cons_zero, List.set_cons_succ]
      refine wpAnyH_take (i := 1) (oi := ⟨some 23, _, _, _, _, _⟩) (v := ?_) rfl (by kernel_rfl) (by kernel_rfl) (by kernel_rfl) (fun _ _ _ h => h) (Or.inl ⟨by rfl, ?_⟩) (by assumption) ?_
      rotate_left
      · (intro w hSw; (try dsimp only at hSw); go_simp; try with_reducible rfl)
      try simp only [Act.put, List.setIfInBounds_toArray, List.set_cons_zero, List.set_cons_succ]
      refine wpAnyH_take (i := 2) (oi := ⟨some 24, _, _, _, _, _⟩) (v := ?_) rfl (by kernel_rfl) (by kernel_rfl) (by kernel_rfl) (fun _ _ _ h => h) (Or.inl ⟨by rfl, ?_⟩) (by assumption) ?_
      rotate_left
      · (intro w hSw; (try dsimp only at hSw); go_simp; try with_reducible rfl)
      try simp only [Act.put, List.setIfInBounds_toArray, List.set_cons_zero, List.set_cons_succ]
      refine wpAnyH_take (i := 4) (oi := ⟨some 26, _, _, _, _, _⟩) (v := ?_) rfl (by kernel_rfl) (by kernel_rfl) (by kernel_rfl) (fun _ _ _ h => h) (Or.inl ⟨by rfl, ?_⟩) (by assumption) ?_
      rotate_left
      · (intro w hSw; (try dsimp only at hSw); go_simp; try with_reducible rfl)
      try simp only [Act.put, List.setIfInBounds_toArray, List.set_cons_zero, List.set_cons_succ]
      refine wpAnyH_take (i := 5) (oi := ⟨some 27, _, _, _, _, _⟩) (v := ?_) rfl (by kernel_rfl) (by kernel_rfl) (by kernel_rfl) (fun _ _ _ h => h) (Or.inl ⟨by rfl, ?_⟩) (by assumption) ?_
      rotate_left
      · (intro w hSw; (try dsimp only at hSw); go_simp; try with_reducible rfl)
      try simp only [Act.put, List.setIfInBounds_toArray, List.set_cons_zero, List.set_cons_succ]
      refine wpAnyH_take (i := 7) (oi := ⟨some 29, _, _, _, _, _⟩) (v := ?_) rfl (by kernel_rfl) (by kernel_rfl) (by kernel_rfl) (fun _ _ _ h => h) (Or.inl ⟨by rfl, ?_⟩) (by assumption) ?_
      rotate_left
      · (intro w hSw; (try dsimp only at hSw); go_simp; try with_reducible rfl)
      try simp only [Act.put, List.setIfInBounds_toArray, List.set_cons_zero, List.set_cons_succ]
      refine wpAnyH_take (i := 8) (oi := ⟨some 30, _, _, _, _, _⟩) (v := ?_) rfl (by kernel_rfl) (by kernel_rfl) (by kernel_rfl) (fun _ _ _ h => h) (Or.inl ⟨by rfl, ?_⟩) (by assumption) ?_
      rotate_left
      · (intro w hSw; (try dsimp only at hSw); go_simp; try with_reducible rfl)
      try simp only [Act.put, List.setIfInBounds_toArray, List.set_cons_zero, List.set_cons_succ]
      refine wpAnyH_ready (rs := [3]) (by kernel_rfl) (by simp) ?_
      refine AllReadyH.cons (o := ⟨some 25, _, _, _, _, _⟩) rfl (fun K hK => ?_) AllReadyH.nil
      go_simp
      go_at_call 129; refine (l05Flip_ok x.cx x.cy HXB.out.cx HXB.out.cy _).mono ?_; rintro e w6 ⟨rfl, hb6⟩
      (try go_wp2_with fail)
      refine hK.out _ _ (keepArc hHeld hb6) (fun hHeld => ?_)
      clear hK K
      have OW := hid (own_below OW.out hb6)
      clear hb6
      try simp only [Act.put, List.setIfInBounds_toArray, List.set_cons_zero, List.set_cons_succ]
      refine wpAnyH_ready (rs := [6]) (by kernel_rfl) (by simp) ?_
      refine AllReadyH.cons (o := ⟨some 28, _, _, _, _, _⟩) rfl (fun K hK => ?_) AllReadyH.nil
      go_simp
      go_at_call 129; refine (l05Flip_ok x.tx x.ty HXB.out.tx HXB.out.ty _).mono ?_; rintro e w6 ⟨rfl, hb6⟩
      (try go_wp2_with fail)
      refine hK.out _ _ (keepArc hHeld hb6) (fun hHeld => ?_)
      clear hK K
      have OW := hid (own_below OW.out hb6)
      clear hb6
      try simp only [Act.put, List.setIfInBounds_toArray, List.set_cons_zero, List.set_cons_succ]
      refine wpAnyH_ready (rs := [9]) (by kernel_rfl) (by simp) ?_
      refine AllReadyH.cons (o := ⟨some 31, _, _, _, _, _⟩) rfl (fun K hK => ?_) AllReadyH.nil
      go_simp
      go_at_call 129; refine (l05Flip_ok x.fx x.fy HXB.out.fx HXB.out.fy _).mono ?_; rintro e w6 ⟨rfl, hb6⟩
      (try go_wp2_with fail)
      refine hK.out _ _ (keepArc hHeld hb6) (fun hHeld => ?_)
      clear hK K
      have OW := hid (own_below OW.out hb6)
      clear hb6
      try simp only [Act.put, List.setIfInBounds_toArray, List.set_cons_zero, List.set_cons_succ]
      refine wpAnyH_take (i := 10) (oi := ⟨some 32, _, _, _, _, _⟩) (v := ?_) rfl (by kernel_rfl) (by kernel_rfl) (by kernel_rfl) (fun _ _ _ h => h) (Or.inl ⟨by rfl, ?_⟩) (by assumption) ?_
      rotate_left
      · (intro w hSw; (try dsimp only at hSw); go_simp; try with_reducible rfl)
      try simp only [Act.put, List.setIfInBounds_toArray, List.set_cons_zero, List.set_cons_succ]
      refine wpAnyH_ready (rs := [11]) (by kernel_rfl) (by simp) ?_
      refine AllReadyH.cons (o := ⟨some 33, _, _, _, _, _⟩) rfl (fun K hK => ?_) AllReadyH.nil
      have BW := hid hHeld.1.2.1
      go_simp
      refine hK.out _ _ (keepArc hHeld (below_alloc _ _)) (fun hHeld => ?_)
      clear hK K
      try simp only [Act.put, List.setIfInBounds_toArray, List.set_cons_zero, List.set_cons_succ]
      refine wpAnyH_ready (rs := [12]) (by kernel_rfl) (by simp) ?_
      refine AllReadyH.cons (o := ⟨some 34, _, _, _, _, _⟩) rfl (fun K hK => ?_) AllReadyH.nil
      refine step_appO (w0 := w1) (wr := w6) rfl (.tmp 22) (.tmp 33) 73 rfl w1.heap.size 88 (.agg #[.int .i64 0, .int .i64 0, .int .i64 0, .int .i64 0, .int .i64 0, .int .i64 0]) 6 48 Try.underlying73 infoArc rfl (by decide) (.slice (some ⟨g, 0, none⟩) k cc) k _ (by first | rfl | simp [Act.eval]) OW.out #[.int .i64 (-x.cx), .int .i64 (x.cy), .int .i64 (-x.tx), .int .i64 (x.ty), .int .i64 (-x.fx), .int .i64 (x.fy)] 1 1 (by first | rfl | simp [Act.eval]) rfl (by simp [Value.oneCell']) (by omega) BW.out.size BW.out ?_
      intro v1 w9 hown1 hbel1 hgr1 _
      refine hK.out _ _ (keepArcG hHeld hgr1 hne1 hbel1) (fun hHeld => ?_)
      clear hK K
      try simp only [Act.put, List.setIfInBounds_toArray, List.set_cons_zero, List.set_cons_succ]
      refine wpAnyH_take (i := 13) (oi := ⟨some 4, _, _, _, _, _⟩) (v := ?_) rfl (by kernel_rfl) (by kernel_rfl) (by kernel_rfl) (fun _ _ _ h => h) (Or.inl ⟨by rfl, ?_⟩) (by assumption) ?_
      rotate_left
      · (intro w hSw; (try dsimp only at hSw); go_simp; try with_reducible rfl)
      try simp only [Act.put, List.setIfInBounds_toArray, List.set_cons_zero, List.set_cons_succ]
      refine wpAnyH_done (by kernel_rfl) ?_ _
      clear hHeld x0 x1 x2 x3 x4 x5 z0 z1 z2 z3 z4 z5 hl hgr1 hne1
      have HC := hid (ArcsAt.of HL.out rfl hown1 hbel1)
      obtain ⟨g9, c9, rfl, -⟩ := own_form hown1 (by omega)
      clear hown1 hbel1
      go_wp2_with fail
      go_roundw
      case rel => exact ⟨k + 1, m, by have := HK.out; omega, by go_num, HC.out⟩
      case measure => simp [intOf]
    | zero =>
      have hk2 : k = xs.length := by have := HK.out; omega
      subst hk2
      have q1 : ¬ (0 : Int) ≤ ((0 : Nat) : Int) - 1 := by omega
      have HO2 := hid (show wr.ownsRow w1.heap.size 88 6 (.slice (some ⟨g, 0, none⟩) xs.length cc) xs.length (arcV (mirL xs)) by
        have h := HO.out
        rw [List.take_of_length_le (by rw [mirL_len]; exact Nat.le_refl _)] at h
        exact h)
      go_wp2_with fail
      go_ret2
      exact ⟨g, cc, rfl, own_mono HO2.out HB1.out.size, below_trans HB1.out HB.out⟩

end Go.Proofs.Ytdbjbkdcmhekfaa
