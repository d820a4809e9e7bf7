/- A coat over a colour: impl's and spec's function. -/
import Derived.Test.YtdbjbkdcmhekfaaVCoat
import Derived.Test.YtdbjbkdcmhekfaaCloneI
import Derived.Test.YtdbjbkdcmhekfaaDivR
import Derived.Deep.AppendLies
namespace Go.Proofs.Ytdbjbkdcmhekfaa
open Go.RowKit
set_option linter.unusedVariables false

section
variable {P : Program} {w0 wr : World}
theorem step_app {ops : Array Oper} {o : Oper} {a : Act} {K : Act → World → Prop} {Q : Exit → Act → World → Prop} {E : Prop} (hgd : o.guard = none) (s x : Operand) (t : TypeId)
    (ho : o.op = .call { callee := .builtin .append, args := #[s, x], argTypes := #[t, t] })
    (B : Nat) (e : TypeId) (z : Value) (size bytes : Nat) (ht : P.underlying t = some (.slice e)) (hinfo : (P.info? e).map (fun i => (i.zero, i.size, i.bytes)) = some (some z, size, bytes)) (hzs : z.cells.size = size) (hsz : 0 < size)
    (v : Value) (n : Nat) (xs : List Value) (hs : a.eval s = v) (hown : wr.ownsRow B e size v n xs)
    (cs : Array Value) (m c : Nat) (hx : a.eval x = .slice (some ⟨wr.heap.size, 0, none⟩) m c) (hl : cs.size = m * size) (h1 : ∀ u ∈ cs.toList, u.oneCell' = true) (hm : 0 < m)
    (hbytes : (n + m) * (bytes + 1) ≤ 140737488355328) (hbase : B ≤ wr.heap.size) (hbel : Below B w0 wr)
    (h : ∀ v' w', w'.ownsRow B e size v' (n + m) (xs ++ cs.toList) → Below B w0 w' → K (a.put o.dst v') w') :
    if Region.wanted o (yielded ops a.tmps) = true then Oper.wp P o a (wr.alloc (.cells cs e)) K Q else E := by
  obtain ⟨i0, hi, hz0, hz1, hz2⟩ := info_parts hinfo
  have hnm : n + m ≤ (n + m) * (bytes + 1) := Nat.le_mul_of_pos_right _ (by omega)
  have hb2 : (n + m) * bytes ≤ (n + m) * (bytes + 1) := Nat.mul_le_mul_left _ (by omega)
  refine step_append_lies _ hgd s x t ho B e i0 z size bytes ht hi hz0 hz1 hz2 hzs hsz v n xs hs (hown.alloc _) ⟨wr.heap.size, 0, none⟩ m c cs.toList hx (by simpa using hl) ?_ h1 hm (by unfold maxLen; omega) (by omega) (by simp; omega) _ rfl ?_
  · exact World.news_of_block (heap_alloc_new wr _)
  · intro g cap w' g1 g2 _ _
    exact h _ w' g1 ((hbel.alloc hbase _).grown g2 (by simp; omega) (fun k hk => (hown.lt k hk).1))
end

def overN (x : DCoat) (ns : List Int) : List Int := List.zipWith (fun n c => divR (n * (1000 - x.fCover) + c * x.fCover) 1000) ns x.fIn
def Col (ns : List Int) : Prop := (∀ n ∈ ns, 0 ≤ n ∧ n ≤ 255) ∧ ns.length = 3
theorem overN_length {x : DCoat} {ns : List Int} (h : Col ns) (h2 : Col x.fIn) : (overN x ns).length = ns.length := by
  have := h.2
  have := h2.2
  simp [overN]
  omega
theorem coatD_bd {x : DCoat} (h : coatD x = true) : (0 ≤ x.fCover ∧ x.fCover ≤ 1000) ∧ Col x.fIn := by
  simp only [coatD, coatB, Bool.and_eq_true] at h
  exact ⟨inB_iff.1 h.2.2.1, colB_iff.1 h.2.2.2⟩
theorem divR_col {a : Int} (h0 : 0 ≤ a) (h1 : a ≤ 255000) : 0 ≤ divR a 1000 ∧ divR a 1000 ≤ 255 := by
  unfold divR
  rw [if_neg (by omega)]
  omega
theorem overN_col {x : DCoat} {ns : List Int} (hx : coatD x = true) (h : Col ns) : Col (overN x ns) := by
  obtain ⟨hcov, h2⟩ := coatD_bd hx
  refine ⟨fun n hn => ?_, by rw [overN_length h h2]; exact h.2⟩
  obtain ⟨j, hj, rfl⟩ := List.mem_iff_getElem.1 hn
  have hjn : j < ns.length := by rw [overN_length h h2] at hj; exact hj
  have hjx : j < x.fIn.length := by have := h.2; have := h2.2; omega
  obtain ⟨m0, m1⟩ := h.1 _ (List.getElem_mem hjn)
  obtain ⟨c0, c1⟩ := h2.1 _ (List.getElem_mem hjx)
  have p0 : 0 ≤ ns[j] * (1000 - x.fCover) := Int.mul_nonneg m0 (by omega)
  have p1 : ns[j] * (1000 - x.fCover) ≤ 255 * (1000 - x.fCover) := Int.mul_le_mul_of_nonneg_right m1 (by omega)
  have p2 : 0 ≤ x.fIn[j] * x.fCover := Int.mul_nonneg c0 hcov.1
  have p3 : x.fIn[j] * x.fCover ≤ 255 * x.fCover := Int.mul_le_mul_of_nonneg_right c1 hcov.1
  have := divR_col (a := ns[j] * (1000 - x.fCover) + x.fIn[j] * x.fCover) (by omega) (by omega)
  simpa [overN] using this


set_option maxHeartbeats 1600000 in
set_option maxRecDepth 100000 in
theorem over_ok (x : DCoat) (A G : Option Addr) (c cG : Nat) (ns : List Int) (w : World) (hx : coatD x = true) (hA : RowsAt w 1 A (inCoat x)) (hG : IntsAt w G ns) (hcol : Col ns) :
    Calls Try.prog 155 #[.agg #[.string x.fId, .int .i64 x.fDays, .int .i64 x.fCover, .slice A x.fIn.length c], .slice G ns.length cG] w (RetI w (overN x ns)) := by
  obtain ⟨hcov, hfin⟩ := coatD_bd hx
  have hn3 := hid hcol.2
  have hx3 := hid hfin.2
  obtain ⟨cb, co, rfl, clt, hcc⟩ := rows_ints hA (by intro e; have h := hx3.out; rw [e] at h; exact absurd h (by simp))
  obtain ⟨gb, go, rfl, glt, hgc⟩ := hG (by intro e; have h := hn3.out; rw [e] at h; exact absurd h (by simp))
  have HC := hid hcc
  have HG := hid hgc
  have NC := hid (HasC.new w [.string x.fId, .int .i64 x.fDays, .int .i64 x.fCover, .slice (some ⟨cb, co, none⟩) x.fIn.length c] 147)
  have LE := hid (overN_length hcol hfin)
  have hcol' := hid hcol
  have hfin' := hid hfin
  have hl3 : ns.length ≤ 1048576 := by have := hn3.out; omega
  clear hA hG hcc hgc hx hcol hfin
  go_enter Try.func155, Try.ntmps155
  go_wp2_with fail
  go_loopw [5, 11] (fun v i wr => ∃ k : Nat, k ≤ ns.length ∧ i = .int .i64 k ∧ wr.ownsRow (w.alloc (.cells #[.string x.fId, .int .i64 x.fDays, .int .i64 x.fCover, .slice (some ⟨cb, co, none⟩) x.fIn.length c] 147)).heap.size 2 1 v k (((overN x ns).take k).map (Value.int .i64)) ∧ Below (w.alloc (.cells #[.string x.fId, .int .i64 x.fDays, .int .i64 x.fCover, .slice (some ⟨cb, co, none⟩) x.fIn.length c] 147)).heap.size (w.alloc (.cells #[.string x.fId, .int .i64 x.fDays, .int .i64 x.fCover, .slice (some ⟨cb, co, none⟩) x.fIn.length c] 147)) wr) (fun _ i _ => ns.length - (intOf i).toNat)
  case atStart => exact ⟨0, Nat.zero_le _, rfl, (by have h := World.ownsRow_lit (e := 2) (size := 1) (w.alloc (.cells #[.string x.fId, .int .i64 x.fDays, .int .i64 x.fCover, .slice (some ⟨cb, co, none⟩) x.fIn.length c] 147)) #[] 0 (Nat.le_refl _) (by unfold maxLen; omega) rfl; simpa using h), below_alloc _ _⟩
  case round =>
    obtain ⟨k, hk, rfl, hown, hbel⟩ := hrel
    have HO := hid hown
    have HB := hid hbel
    clear hown hbel
    by_cases hkl : k < ns.length
    · skip
      have q0 : (0 : Int) ≤ (k : Int) := by omega
      have q1 : (k : Int) < ns.length := by omega
      have kx : k < x.fIn.length := by have := hn3.out; have := hx3.out; omega
      have q2 : (k : Int) < x.fIn.length := by omega
      obtain ⟨m0, m1⟩ := hcol'.out.1 _ (List.getElem_mem hkl)
      obtain ⟨c0, c1⟩ := hfin'.out.1 _ (List.getElem_mem kx)
      have p0 : 0 ≤ ns[k] * (1000 - x.fCover) := Int.mul_nonneg m0 (by omega)
      have p1 : ns[k] * (1000 - x.fCover) ≤ 255 * (1000 - x.fCover) := Int.mul_le_mul_of_nonneg_right m1 (by omega)
      have p2 : 0 ≤ x.fIn[k] * x.fCover := Int.mul_nonneg c0 hcov.1
      have p3 : x.fIn[k] * x.fCover ≤ 255 * x.fCover := Int.mul_le_mul_of_nonneg_right c1 hcov.1
      have w1 : IntKind.i64.wrap (1000 - x.fCover) = 1000 - x.fCover := IntWalk.i64_in _ (by omega)
      have w2 : IntKind.i64.wrap (ns[k] * (1000 - x.fCover)) = ns[k] * (1000 - x.fCover) := IntWalk.i64_in _ (by omega)
      have w3 : IntKind.i64.wrap (x.fIn[k] * x.fCover) = x.fIn[k] * x.fCover := IntWalk.i64_in _ (by omega)
      have w4 : IntKind.i64.wrap (ns[k] * (1000 - x.fCover) + x.fIn[k] * x.fCover) = ns[k] * (1000 - x.fCover) + x.fIn[k] * x.fCover := IntWalk.i64_in _ (by omega)
      have HE := hid (show ((overN x ns).take k).map (Value.int .i64) ++ [.int .i64 (divR (ns[k] * (1000 - x.fCover) + x.fIn[k] * x.fCover) 1000)] = ((overN x ns).take (k + 1)).map (Value.int .i64) by
        rw [List.take_succ_eq_append_getElem (by rw [LE.out]; exact hkl), List.map_append]
        simp [overN])
      have nl := NC.out.1
      have hcb : (w.alloc (.cells #[.string x.fId, .int .i64 x.fDays, .int .i64 x.fCover, .slice (some ⟨cb, co, none⟩) x.fIn.length c] 147)).cell? ⟨cb, co + k, none⟩ = some (.int .i64 x.fIn[k]) := ((below_alloc w _).cell (p := ⟨cb, co + k, none⟩) clt).trans (HC.out k _ (List.getElem?_eq_getElem kx))
      have nb : cb < (w.alloc (.cells #[.string x.fId, .int .i64 x.fDays, .int .i64 x.fCover, .slice (some ⟨cb, co, none⟩) x.fIn.length c] 147)).heap.size := by omega
      have ng : gb < (w.alloc (.cells #[.string x.fId, .int .i64 x.fDays, .int .i64 x.fCover, .slice (some ⟨cb, co, none⟩) x.fIn.length c] 147)).heap.size := by omega
      have HS : ∀ wb, Below (w.alloc (.cells #[.string x.fId, .int .i64 x.fDays, .int .i64 x.fCover, .slice (some ⟨cb, co, none⟩) x.fIn.length c] 147)).heap.size (w.alloc (.cells #[.string x.fId, .int .i64 x.fDays, .int .i64 x.fCover, .slice (some ⟨cb, co, none⟩) x.fIn.length c] 147)) wb → (fun w' => (True ∧ Below (w.alloc (.cells #[.string x.fId, .int .i64 x.fDays, .int .i64 x.fCover, .slice (some ⟨cb, co, none⟩) x.fIn.length c] 147)).heap.size (w.alloc (.cells #[.string x.fId, .int .i64 x.fDays, .int .i64 x.fCover, .slice (some ⟨cb, co, none⟩) x.fIn.length c] 147)) w') ∧ w'.cell? ⟨w.heap.size, 2, none⟩ = some (.int .i64 x.fCover) ∧ w'.cell? ⟨w.heap.size, 3, none⟩ = some (.slice (some ⟨cb, co, none⟩) x.fIn.length c) ∧ w'.cell? ⟨cb, co + k, none⟩ = some (.int .i64 x.fIn[k])) wb := fun wb hb => ⟨⟨trivial, hb⟩, (hb.cell (p := ⟨w.heap.size, 2, none⟩) nl).trans (NC.out.2 2 _ rfl), (hb.cell (p := ⟨w.heap.size, 3, none⟩) nl).trans (NC.out.2 3 _ rfl), (hb.cell (p := ⟨cb, co + k, none⟩) nb).trans hcb⟩
      have hcg : wr.cell? ⟨gb, go + k, none⟩ = some (.int .i64 ns[k]) := (HB.out.cell (p := ⟨gb, go + k, none⟩) ng).trans (((below_alloc w _).cell (p := ⟨gb, go + k, none⟩) glt).trans (HG.out k _ (List.getElem?_eq_getElem hkl)))
      go_wp2_with fail
      refine wp_region_held_drew (S := (fun w' => (True ∧ Below (w.alloc (.cells #[.string x.fId, .int .i64 x.fDays, .int .i64 x.fCover, .slice (some ⟨cb, co, none⟩) x.fIn.length c] 147)).heap.size (w.alloc (.cells #[.string x.fId, .int .i64 x.fDays, .int .i64 x.fCover, .slice (some ⟨cb, co, none⟩) x.fIn.length c] 147)) w') ∧ w'.cell? ⟨w.heap.size, 2, none⟩ = some (.int .i64 x.fCover) ∧ w'.cell? ⟨w.heap.size, 3, none⟩ = some (.slice (some ⟨cb, co, none⟩) x.fIn.length c) ∧ w'.cell? ⟨cb, co + k, none⟩ = some (.int .i64 x.fIn[k]))) (by kernel_rfl) (HS _ HB.out.drew) (fun hHeld => ?_)
      refine wpAnyH_take (i := 0) (oi := ⟨some 16, _, _, _, _, _⟩) (v := ?_) rfl (by kernel_rfl) (by kernel_rfl) (by kernel_rfl) (fun _ _ _ h => h) (Or.inl ⟨by rfl, ?_⟩) (by assumption) ?_
      rotate_left
      · (intro w hSw; (try dsimp only at hSw); go_simp; try with_reducible rfl)
      try simp only [Act.put, List.setIfInBounds_toArray, List.set_cons_zero, List.set_cons_succ]
      refine wpAnyH_take (i := 1) (oi := ⟨some 17, _, _, _, _, _⟩) (v := ?_) rfl (by kernel_rfl) (by kernel_rfl) (by kernel_rfl) (fun _ _ _ h => h) (Or.inl ⟨by rfl, ?_⟩) (by assumption) ?_
      rotate_left
      · (intro w hSw; (try dsimp only at hSw); go_simp; try with_reducible rfl)
      try simp only [Act.put, List.setIfInBounds_toArray, List.set_cons_zero, List.set_cons_succ]
      refine wpAnyH_take (i := 2) (oi := ⟨some 18, _, _, _, _, _⟩) (v := ?_) rfl (by kernel_rfl) (by kernel_rfl) (by kernel_rfl) (fun _ _ _ h => h) (Or.inl ⟨by rfl, ?_⟩) (by assumption) ?_
      rotate_left
      · (intro w hSw; (try dsimp only at hSw); go_simp; try with_reducible rfl)
      try simp only [Act.put, List.setIfInBounds_toArray, List.set_cons_zero, List.set_cons_succ]
      refine wpAnyH_take (i := 3) (oi := ⟨some 19, _, _, _, _, _⟩) (v := ?_) rfl (by kernel_rfl) (by kernel_rfl) (by kernel_rfl) (fun _ _ _ h => h) (Or.inl ⟨by rfl, ?_⟩) (by assumption) ?_
      rotate_left
      · (intro w hSw; (try dsimp only at hSw); go_simp; try with_reducible rfl)
      try simp only [Act.put, List.setIfInBounds_toArray, List.set_cons_zero, List.set_cons_succ]
      refine wpAnyH_take (i := 4) (oi := ⟨some 20, _, _, _, _, _⟩) (v := ?_) rfl (by kernel_rfl) (by kernel_rfl) (by kernel_rfl) (fun _ _ _ h => h) (Or.inl ⟨by rfl, ?_⟩) (by assumption) ?_
      rotate_left
      · (intro w hSw; (try dsimp only at hSw); go_simp; try with_reducible rfl)
      try simp only [Act.put, List.setIfInBounds_toArray, List.set_cons_zero, List.set_cons_succ]
      refine wpAnyH_take (i := 5) (oi := ⟨some 21, _, _, _, _, _⟩) (v := ?_) rfl (by kernel_rfl) (by kernel_rfl) (by kernel_rfl) (fun _ _ _ h => h) (Or.inl ⟨by rfl, ?_⟩) (by assumption) ?_
      rotate_left
      · (intro w hSw; (try dsimp only at hSw); go_simp; try with_reducible rfl)
      try simp only [Act.put, List.setIfInBounds_toArray, List.set_cons_zero, List.set_cons_succ]
      refine wpAnyH_take (i := 6) (oi := ⟨some 22, _, _, _, _, _⟩) (v := ?_) rfl (by kernel_rfl) (by kernel_rfl) (by kernel_rfl) (fun _ _ _ h => h) (Or.inl ⟨by rfl, ?_⟩) (by assumption) ?_
      rotate_left
      · (intro w hSw; (try dsimp only at hSw); go_simp; try with_reducible rfl)
      try simp only [Act.put, List.setIfInBounds_toArray, List.set_cons_zero, List.set_cons_succ]
      refine wpAnyH_take (i := 7) (oi := ⟨some 23, _, _, _, _, _⟩) (v := ?_) rfl (by kernel_rfl) (by kernel_rfl) (by kernel_rfl) (fun _ _ _ h => h) (Or.inl ⟨by rfl, ?_⟩) (by assumption) ?_
      rotate_left
      · (intro w hSw; (try dsimp only at hSw); go_simp; try with_reducible rfl)
      try simp only [Act.put, List.setIfInBounds_toArray, List.set_cons_zero, List.set_cons_succ]
      refine wpAnyH_take (i := 8) (oi := ⟨some 24, _, _, _, _, _⟩) (v := ?_) rfl (by kernel_rfl) (by kernel_rfl) (by kernel_rfl) (fun _ _ _ h => h) (Or.inl ⟨by rfl, ?_⟩) (by assumption) ?_
      rotate_left
      · (intro w hSw; (try dsimp only at hSw); go_simp; try with_reducible rfl)
      try simp only [Act.put, List.setIfInBounds_toArray, List.set_cons_zero, List.set_cons_succ]
      refine wpAnyH_take (i := 9) (oi := ⟨some 25, _, _, _, _, _⟩) (v := ?_) rfl (by kernel_rfl) (by kernel_rfl) (by kernel_rfl) (fun _ _ _ h => h) (Or.inl ⟨by rfl, ?_⟩) (by assumption) ?_
      rotate_left
      · (intro w hSw; (try dsimp only at hSw); go_simp; try with_reducible rfl)
      try simp only [Act.put, List.setIfInBounds_toArray, List.set_cons_zero, List.set_cons_succ]
      refine wpAnyH_take (i := 10) (oi := ⟨some 26, _, _, _, _, _⟩) (v := ?_) rfl (by kernel_rfl) (by kernel_rfl) (by kernel_rfl) (fun _ _ _ h => h) (Or.inl ⟨by rfl, ?_⟩) (by assumption) ?_
      rotate_left
      · (intro w hSw; (try dsimp only at hSw); go_simp; try with_reducible rfl)
      try simp only [Act.put, List.setIfInBounds_toArray, List.set_cons_zero, List.set_cons_succ]
      refine wpAnyH_take (i := 11) (oi := ⟨some 27, _, _, _, _, _⟩) (v := ?_) rfl (by kernel_rfl) (by kernel_rfl) (by kernel_rfl) (fun _ _ _ h => h) (Or.inl ⟨by rfl, ?_⟩) (by assumption) ?_
      rotate_left
      · (intro w hSw; (try dsimp only at hSw); go_simp; try with_reducible rfl)
      try simp only [Act.put, List.setIfInBounds_toArray, List.set_cons_zero, List.set_cons_succ]
      refine wpAnyH_take (i := 12) (oi := ⟨some 28, _, _, _, _, _⟩) (v := ?_) rfl (by kernel_rfl) (by kernel_rfl) (by kernel_rfl) (fun _ _ _ h => h) (Or.inl ⟨by rfl, ?_⟩) (by assumption) ?_
      rotate_left
      · (intro w hSw; (try dsimp only at hSw); go_simp; try with_reducible rfl)
      try simp only [Act.put, List.setIfInBounds_toArray, List.set_cons_zero, List.set_cons_succ]
      refine wpAnyH_take (i := 13) (oi := ⟨some 29, _, _, _, _, _⟩) (v := ?_) rfl (by kernel_rfl) (by kernel_rfl) (by kernel_rfl) (fun _ _ _ h => h) (Or.inl ⟨by rfl, ?_⟩) (by assumption) ?_
      rotate_left
      · (intro w hSw; (try dsimp only at hSw); go_simp; try with_reducible rfl)
      try simp only [Act.put, List.setIfInBounds_toArray, List.set_cons_zero, List.set_cons_succ]
      refine wpAnyH_take (i := 14) (oi := ⟨some 30, _, _, _, _, _⟩) (v := ?_) rfl (by kernel_rfl) (by kernel_rfl) (by kernel_rfl) (fun _ _ _ h => h) (Or.inl ⟨by rfl, ?_⟩) (by assumption) ?_
      rotate_left
      · (intro w hSw; (try dsimp only at hSw); go_simp; try with_reducible rfl)
      try simp only [Act.put, List.setIfInBounds_toArray, List.set_cons_zero, List.set_cons_succ]
      refine wpAnyH_ready (rs := [15]) (by kernel_rfl) (by simp) ?_
      refine AllReadyH.cons (o := ⟨some 31, _, _, _, _, _⟩) rfl (fun K hK => ?_) AllReadyH.nil
      go_simp
      go_at_call 185; refine (divRound_ok _ _ _ (by omega) (by omega) (by omega) (by omega)).mono ?_; rintro e w6 ⟨rfl, rfl⟩
      (try go_wp2_with fail)
      refine hK.out _ _ (hHeld) (fun hHeld => ?_)
      clear hK K
      try simp only [Act.put, List.setIfInBounds_toArray, List.set_cons_zero, List.set_cons_succ]
      refine wpAnyH_ready (rs := [16]) (by kernel_rfl) (by simp) ?_
      refine AllReadyH.cons (o := ⟨some 32, _, _, _, _, _⟩) rfl (fun K hK => ?_) AllReadyH.nil
      go_simp
      refine hK.out _ _ (HS _ (hHeld.1.2.alloc hHeld.1.2.size _)) (fun hHeld => ?_)
      clear hK K
      try simp only [Act.put, List.setIfInBounds_toArray, List.set_cons_zero, List.set_cons_succ]
      refine wpAnyH_ready (rs := [17]) (by kernel_rfl) (by simp) ?_
      refine AllReadyH.cons (o := ⟨some 33, _, _, _, _, _⟩) rfl (fun K hK => ?_) AllReadyH.nil
      refine step_app (w0 := (w.alloc (.cells #[.string x.fId, .int .i64 x.fDays, .int .i64 x.fCover, .slice (some ⟨cb, co, none⟩) x.fIn.length c] 147))) rfl (.tmp 16) (.tmp 32) 24 rfl (w.alloc (.cells #[.string x.fId, .int .i64 x.fDays, .int .i64 x.fCover, .slice (some ⟨cb, co, none⟩) x.fIn.length c] 147)).heap.size 2 (.int .i64 0) 1 8 Try.underlying24 infoI rfl (by decide) _ k _ rfl (own_below HO.out (Below.refl _ _).drew) #[.int .i64 (divR (ns[k] * (1000 - x.fCover) + x.fIn[k] * x.fCover) 1000)] 1 1 rfl rfl (by simp [Value.oneCell']) (by omega) (by omega) HB.out.drew.size HB.out.drew ?_
      intro v1 w1 hown1 hbel1
      refine hK.out _ _ (HS _ hbel1) (fun hHeld => ?_)
      clear hK K
      try simp only [Act.put, List.setIfInBounds_toArray, List.set_cons_zero, List.set_cons_succ]
      refine wpAnyH_take (i := 18) (oi := ⟨some 5, _, _, _, _, _⟩) (v := ?_) rfl (by kernel_rfl) (by kernel_rfl) (by kernel_rfl) (fun _ _ _ h => h) (Or.inl ⟨by rfl, ?_⟩) (by assumption) ?_
      rotate_left
      · (intro w hSw; (try dsimp only at hSw); go_simp; try with_reducible rfl)
      try simp only [Act.put, List.setIfInBounds_toArray, List.set_cons_zero, List.set_cons_succ]
      refine wpAnyH_done (by kernel_rfl) ?_ _
      go_wp2_with fail
      go_roundw
      case rel => exact ⟨k + 1, by omega, by go_num, by rw [← HE.out]; exact hown1, hbel1⟩
      case measure => simp [intOf]; omega
    · have hk2 : k = ns.length := by omega
      subst hk2
      go_wp2_with fail
      go_ret
      exact RetI.own (by have h := HO.out; rw [List.take_of_length_le (by rw [LE.out]; exact Nat.le_refl _)] at h; rw [LE.out]; exact own_mono h (by have := NC.out.1; omega)) (below_trans (below_alloc w _) HB.out)


set_option maxHeartbeats 1600000 in
set_option maxRecDepth 100000 in
theorem l13Over_ok (x : DCoat) (A G : Option Addr) (b o c cG : Nat) (ns : List Int) (w : World) (hx : coatD x = true) (hA : RowsAt w 1 A (inCoat x)) (blt : b < w.heap.size) (k2 : w.cell? ⟨b, o + 2, none⟩ = some (.int .i64 x.fCover)) (k3 : w.cell? ⟨b, o + 3, none⟩ = some (.slice A x.fIn.length c)) (hG : IntsAt w G ns) (hcol : Col ns) :
    Calls Try.prog 152 #[.pointer (some ⟨b, o, none⟩), .slice G ns.length cG] w (RetI w (overN x ns)) := by
  obtain ⟨hcov, hfin⟩ := coatD_bd hx
  have hn3 := hid hcol.2
  have hx3 := hid hfin.2
  obtain ⟨cb, co, rfl, clt, hcc⟩ := rows_ints hA (by intro e; have h := hx3.out; rw [e] at h; exact absurd h (by simp))
  obtain ⟨gb, go, rfl, glt, hgc⟩ := hG (by intro e; have h := hn3.out; rw [e] at h; exact absurd h (by simp))
  have HC := hid hcc
  have HG := hid hgc
  have K2 := hid k2
  have K3 := hid k3
  have LE := hid (overN_length hcol hfin)
  have hcol' := hid hcol
  have hfin' := hid hfin
  have hl3 : ns.length ≤ 1048576 := by have := hn3.out; omega
  clear hA hG hcc hgc hx k2 k3 hcol hfin
  go_enter Try.func152, Try.ntmps152
  go_wp2_with fail
  go_loopw [5, 6] (fun v i wr => ∃ k : Nat, k ≤ ns.length ∧ i = .int .i64 k ∧ wr.ownsRow w.heap.size 2 1 v k (((overN x ns).take k).map (Value.int .i64)) ∧ Below w.heap.size w wr) (fun _ i _ => ns.length - (intOf i).toNat)
  case atStart => exact ⟨0, Nat.zero_le _, rfl, World.ownsRow_lit _ _ 0 (Nat.le_refl _) (by unfold maxLen; omega) rfl, below_alloc _ _⟩
  case round =>
    obtain ⟨k, hk, rfl, hown, hbel⟩ := hrel
    have HO := hid hown
    have HB := hid hbel
    clear hown hbel
    by_cases hkl : k < ns.length
    · skip
      have q0 : (0 : Int) ≤ (k : Int) := by omega
      have q1 : (k : Int) < ns.length := by omega
      have kx : k < x.fIn.length := by have := hn3.out; have := hx3.out; omega
      have q2 : (k : Int) < x.fIn.length := by omega
      obtain ⟨m0, m1⟩ := hcol'.out.1 _ (List.getElem_mem hkl)
      obtain ⟨c0, c1⟩ := hfin'.out.1 _ (List.getElem_mem kx)
      have p0 : 0 ≤ ns[k] * (1000 - x.fCover) := Int.mul_nonneg m0 (by omega)
      have p1 : ns[k] * (1000 - x.fCover) ≤ 255 * (1000 - x.fCover) := Int.mul_le_mul_of_nonneg_right m1 (by omega)
      have p2 : 0 ≤ x.fIn[k] * x.fCover := Int.mul_nonneg c0 hcov.1
      have p3 : x.fIn[k] * x.fCover ≤ 255 * x.fCover := Int.mul_le_mul_of_nonneg_right c1 hcov.1
      have w1 : IntKind.i64.wrap (1000 - x.fCover) = 1000 - x.fCover := IntWalk.i64_in _ (by omega)
      have w2 : IntKind.i64.wrap (ns[k] * (1000 - x.fCover)) = ns[k] * (1000 - x.fCover) := IntWalk.i64_in _ (by omega)
      have w3 : IntKind.i64.wrap (x.fIn[k] * x.fCover) = x.fIn[k] * x.fCover := IntWalk.i64_in _ (by omega)
      have w4 : IntKind.i64.wrap (ns[k] * (1000 - x.fCover) + x.fIn[k] * x.fCover) = ns[k] * (1000 - x.fCover) + x.fIn[k] * x.fCover := IntWalk.i64_in _ (by omega)
      have HE := hid (show ((overN x ns).take k).map (Value.int .i64) ++ [.int .i64 (divR (ns[k] * (1000 - x.fCover) + x.fIn[k] * x.fCover) 1000)] = ((overN x ns).take (k + 1)).map (Value.int .i64) by
        rw [List.take_succ_eq_append_getElem (by rw [LE.out]; exact hkl), List.map_append]
        simp [overN])
      have HS : ∀ wb, Below w.heap.size w wb → (fun w' => (True ∧ Below w.heap.size w w') ∧ w'.cell? ⟨b, o + 2, none⟩ = some (.int .i64 x.fCover) ∧ w'.cell? ⟨b, o + 3, none⟩ = some (.slice (some ⟨cb, co, none⟩) x.fIn.length c) ∧ w'.cell? ⟨cb, co + k, none⟩ = some (.int .i64 x.fIn[k]) ∧ w'.cell? ⟨gb, go + k, none⟩ = some (.int .i64 ns[k])) wb := fun wb hb => ⟨⟨trivial, hb⟩, (hb.cell (p := ⟨b, o + 2, none⟩) blt).trans K2.out, (hb.cell (p := ⟨b, o + 3, none⟩) blt).trans K3.out, (hb.cell (p := ⟨cb, co + k, none⟩) clt).trans (HC.out k _ (List.getElem?_eq_getElem kx)), (hb.cell (p := ⟨gb, go + k, none⟩) glt).trans (HG.out k _ (List.getElem?_eq_getElem hkl))⟩
      go_wp2_with fail
      refine wp_region_held_drew (S := (fun w' => (True ∧ Below w.heap.size w w') ∧ w'.cell? ⟨b, o + 2, none⟩ = some (.int .i64 x.fCover) ∧ w'.cell? ⟨b, o + 3, none⟩ = some (.slice (some ⟨cb, co, none⟩) x.fIn.length c) ∧ w'.cell? ⟨cb, co + k, none⟩ = some (.int .i64 x.fIn[k]) ∧ w'.cell? ⟨gb, go + k, none⟩ = some (.int .i64 ns[k]))) (by kernel_rfl) (HS _ HB.out.drew) (fun hHeld => ?_)
      refine wpAnyH_take (i := 0) (oi := ⟨some 14, _, _, _, _, _⟩) (v := ?_) rfl (by kernel_rfl) (by kernel_rfl) (by kernel_rfl) (fun _ _ _ h => h) (Or.inl ⟨by rfl, ?_⟩) (by assumption) ?_
      rotate_left
      · (intro w hSw; (try dsimp only at hSw); go_simp; try with_reducible rfl)
      try simp only [Act.put, List.setIfInBounds_toArray, List.set_cons_zero, List.set_cons_succ]
      refine wpAnyH_take (i := 1) (oi := ⟨some 15, _, _, _, _, _⟩) (v := ?_) rfl (by kernel_rfl) (by kernel_rfl) (by kernel_rfl) (fun _ _ _ h => h) (Or.inl ⟨by rfl, ?_⟩) (by assumption) ?_
      rotate_left
      · (intro w hSw; (try dsimp only at hSw); go_simp; try with_reducible rfl)
      try simp only [Act.put, List.setIfInBounds_toArray, List.set_cons_zero, List.set_cons_succ]
      refine wpAnyH_take (i := 2) (oi := ⟨some 16, _, _, _, _, _⟩) (v := ?_) rfl (by kernel_rfl) (by kernel_rfl) (by kernel_rfl) (fun _ _ _ h => h) (Or.inl ⟨by rfl, ?_⟩) (by assumption) ?_
      rotate_left
      · (intro w hSw; (try dsimp only at hSw); go_simp; try with_reducible rfl)
      try simp only [Act.put, List.setIfInBounds_toArray, List.set_cons_zero, List.set_cons_succ]
      refine wpAnyH_take (i := 3) (oi := ⟨some 17, _, _, _, _, _⟩) (v := ?_) rfl (by kernel_rfl) (by kernel_rfl) (by kernel_rfl) (fun _ _ _ h => h) (Or.inl ⟨by rfl, ?_⟩) (by assumption) ?_
      rotate_left
      · (intro w hSw; (try dsimp only at hSw); go_simp; try with_reducible rfl)
      try simp only [Act.put, List.setIfInBounds_toArray, List.set_cons_zero, List.set_cons_succ]
      refine wpAnyH_take (i := 4) (oi := ⟨some 18, _, _, _, _, _⟩) (v := ?_) rfl (by kernel_rfl) (by kernel_rfl) (by kernel_rfl) (fun _ _ _ h => h) (Or.inl ⟨by rfl, ?_⟩) (by assumption) ?_
      rotate_left
      · (intro w hSw; (try dsimp only at hSw); go_simp; try with_reducible rfl)
      try simp only [Act.put, List.setIfInBounds_toArray, List.set_cons_zero, List.set_cons_succ]
      refine wpAnyH_take (i := 5) (oi := ⟨some 19, _, _, _, _, _⟩) (v := ?_) rfl (by kernel_rfl) (by kernel_rfl) (by kernel_rfl) (fun _ _ _ h => h) (Or.inl ⟨by rfl, ?_⟩) (by assumption) ?_
      rotate_left
      · (intro w hSw; (try dsimp only at hSw); go_simp; try with_reducible rfl)
      try simp only [Act.put, List.setIfInBounds_toArray, List.set_cons_zero, List.set_cons_succ]
      refine wpAnyH_take (i := 6) (oi := ⟨some 20, _, _, _, _, _⟩) (v := ?_) rfl (by kernel_rfl) (by kernel_rfl) (by kernel_rfl) (fun _ _ _ h => h) (Or.inl ⟨by rfl, ?_⟩) (by assumption) ?_
      rotate_left
      · (intro w hSw; (try dsimp only at hSw); go_simp; try with_reducible rfl)
      try simp only [Act.put, List.setIfInBounds_toArray, List.set_cons_zero, List.set_cons_succ]
      refine wpAnyH_take (i := 7) (oi := ⟨some 21, _, _, _, _, _⟩) (v := ?_) rfl (by kernel_rfl) (by kernel_rfl) (by kernel_rfl) (fun _ _ _ h => h) (Or.inl ⟨by rfl, ?_⟩) (by assumption) ?_
      rotate_left
      · (intro w hSw; (try dsimp only at hSw); go_simp; try with_reducible rfl)
      try simp only [Act.put, List.setIfInBounds_toArray, List.set_cons_zero, List.set_cons_succ]
      refine wpAnyH_take (i := 8) (oi := ⟨some 22, _, _, _, _, _⟩) (v := ?_) rfl (by kernel_rfl) (by kernel_rfl) (by kernel_rfl) (fun _ _ _ h => h) (Or.inl ⟨by rfl, ?_⟩) (by assumption) ?_
      rotate_left
      · (intro w hSw; (try dsimp only at hSw); go_simp; try with_reducible rfl)
      try simp only [Act.put, List.setIfInBounds_toArray, List.set_cons_zero, List.set_cons_succ]
      refine wpAnyH_take (i := 9) (oi := ⟨some 23, _, _, _, _, _⟩) (v := ?_) rfl (by kernel_rfl) (by kernel_rfl) (by kernel_rfl) (fun _ _ _ h => h) (Or.inl ⟨by rfl, ?_⟩) (by assumption) ?_
      rotate_left
      · (intro w hSw; (try dsimp only at hSw); go_simp; try with_reducible rfl)
      try simp only [Act.put, List.setIfInBounds_toArray, List.set_cons_zero, List.set_cons_succ]
      refine wpAnyH_take (i := 10) (oi := ⟨some 24, _, _, _, _, _⟩) (v := ?_) rfl (by kernel_rfl) (by kernel_rfl) (by kernel_rfl) (fun _ _ _ h => h) (Or.inl ⟨by rfl, ?_⟩) (by assumption) ?_
      rotate_left
      · (intro w hSw; (try dsimp only at hSw); go_simp; try with_reducible rfl)
      try simp only [Act.put, List.setIfInBounds_toArray, List.set_cons_zero, List.set_cons_succ]
      refine wpAnyH_take (i := 11) (oi := ⟨some 25, _, _, _, _, _⟩) (v := ?_) rfl (by kernel_rfl) (by kernel_rfl) (by kernel_rfl) (fun _ _ _ h => h) (Or.inl ⟨by rfl, ?_⟩) (by assumption) ?_
      rotate_left
      · (intro w hSw; (try dsimp only at hSw); go_simp; try with_reducible rfl)
      try simp only [Act.put, List.setIfInBounds_toArray, List.set_cons_zero, List.set_cons_succ]
      refine wpAnyH_take (i := 12) (oi := ⟨some 26, _, _, _, _, _⟩) (v := ?_) rfl (by kernel_rfl) (by kernel_rfl) (by kernel_rfl) (fun _ _ _ h => h) (Or.inl ⟨by rfl, ?_⟩) (by assumption) ?_
      rotate_left
      · (intro w hSw; (try dsimp only at hSw); go_simp; try with_reducible rfl)
      try simp only [Act.put, List.setIfInBounds_toArray, List.set_cons_zero, List.set_cons_succ]
      refine wpAnyH_take (i := 13) (oi := ⟨some 27, _, _, _, _, _⟩) (v := ?_) rfl (by kernel_rfl) (by kernel_rfl) (by kernel_rfl) (fun _ _ _ h => h) (Or.inl ⟨by rfl, ?_⟩) (by assumption) ?_
      rotate_left
      · (intro w hSw; (try dsimp only at hSw); go_simp; try with_reducible rfl)
      try simp only [Act.put, List.setIfInBounds_toArray, List.set_cons_zero, List.set_cons_succ]
      refine wpAnyH_take (i := 14) (oi := ⟨some 28, _, _, _, _, _⟩) (v := ?_) rfl (by kernel_rfl) (by kernel_rfl) (by kernel_rfl) (fun _ _ _ h => h) (Or.inl ⟨by rfl, ?_⟩) (by assumption) ?_
      rotate_left
      · (intro w hSw; (try dsimp only at hSw); go_simp; try with_reducible rfl)
      try simp only [Act.put, List.setIfInBounds_toArray, List.set_cons_zero, List.set_cons_succ]
      refine wpAnyH_take (i := 15) (oi := ⟨some 29, _, _, _, _, _⟩) (v := ?_) rfl (by kernel_rfl) (by kernel_rfl) (by kernel_rfl) (fun _ _ _ h => h) (Or.inl ⟨by rfl, ?_⟩) (by assumption) ?_
      rotate_left
      · (intro w hSw; (try dsimp only at hSw); go_simp; try with_reducible rfl)
      try simp only [Act.put, List.setIfInBounds_toArray, List.set_cons_zero, List.set_cons_succ]
      refine wpAnyH_take (i := 16) (oi := ⟨some 30, _, _, _, _, _⟩) (v := ?_) rfl (by kernel_rfl) (by kernel_rfl) (by kernel_rfl) (fun _ _ _ h => h) (Or.inl ⟨by rfl, ?_⟩) (by assumption) ?_
      rotate_left
      · (intro w hSw; (try dsimp only at hSw); go_simp; try with_reducible rfl)
      try simp only [Act.put, List.setIfInBounds_toArray, List.set_cons_zero, List.set_cons_succ]
      refine wpAnyH_take (i := 17) (oi := ⟨some 31, _, _, _, _, _⟩) (v := ?_) rfl (by kernel_rfl) (by kernel_rfl) (by kernel_rfl) (fun _ _ _ h => h) (Or.inl ⟨by rfl, ?_⟩) (by assumption) ?_
      rotate_left
      · (intro w hSw; (try dsimp only at hSw); go_simp; try with_reducible rfl)
      try simp only [Act.put, List.setIfInBounds_toArray, List.set_cons_zero, List.set_cons_succ]
      refine wpAnyH_take (i := 18) (oi := ⟨some 32, _, _, _, _, _⟩) (v := ?_) rfl (by kernel_rfl) (by kernel_rfl) (by kernel_rfl) (fun _ _ _ h => h) (Or.inl ⟨by rfl, ?_⟩) (by assumption) ?_
      rotate_left
      · (intro w hSw; (try dsimp only at hSw); go_simp; try with_reducible rfl)
      try simp only [Act.put, List.setIfInBounds_toArray, List.set_cons_zero, List.set_cons_succ]
      refine wpAnyH_take (i := 19) (oi := ⟨some 33, _, _, _, _, _⟩) (v := ?_) rfl (by kernel_rfl) (by kernel_rfl) (by kernel_rfl) (fun _ _ _ h => h) (Or.inl ⟨by rfl, ?_⟩) (by assumption) ?_
      rotate_left
      · (intro w hSw; (try dsimp only at hSw); go_simp; try with_reducible rfl)
      try simp only [Act.put, List.setIfInBounds_toArray, List.set_cons_zero, List.set_cons_succ]
      refine wpAnyH_take (i := 20) (oi := ⟨some 34, _, _, _, _, _⟩) (v := ?_) rfl (by kernel_rfl) (by kernel_rfl) (by kernel_rfl) (fun _ _ _ h => h) (Or.inl ⟨by rfl, ?_⟩) (by assumption) ?_
      rotate_left
      · (intro w hSw; (try dsimp only at hSw); go_simp; try with_reducible rfl)
      try simp only [Act.put, List.setIfInBounds_toArray, List.set_cons_zero, List.set_cons_succ]
      refine wpAnyH_take (i := 21) (oi := ⟨some 35, _, _, _, _, _⟩) (v := ?_) rfl (by kernel_rfl) (by kernel_rfl) (by kernel_rfl) (fun _ _ _ h => h) (Or.inl ⟨by rfl, ?_⟩) (by assumption) ?_
      rotate_left
      · (intro w hSw; (try dsimp only at hSw); go_simp; try with_reducible rfl)
      try simp only [Act.put, List.setIfInBounds_toArray, List.set_cons_zero, List.set_cons_succ]
      refine wpAnyH_take (i := 22) (oi := ⟨some 36, _, _, _, _, _⟩) (v := ?_) rfl (by kernel_rfl) (by kernel_rfl) (by kernel_rfl) (fun _ _ _ h => h) (Or.inl ⟨by rfl, ?_⟩) (by assumption) ?_
      rotate_left
      · (intro w hSw; (try dsimp only at hSw); go_simp; try with_reducible rfl)
      try simp only [Act.put, List.setIfInBounds_toArray, List.set_cons_zero, List.set_cons_succ]
      refine wpAnyH_take (i := 23) (oi := ⟨some 37, _, _, _, _, _⟩) (v := ?_) rfl (by kernel_rfl) (by kernel_rfl) (by kernel_rfl) (fun _ _ _ h => h) (Or.inl ⟨by rfl, ?_⟩) (by assumption) ?_
      rotate_left
      · (intro w hSw; (try dsimp only at hSw); go_simp; try with_reducible rfl)
      try simp only [Act.put, List.setIfInBounds_toArray, List.set_cons_zero, List.set_cons_succ]
      refine wpAnyH_ready (rs := [24]) (by kernel_rfl) (by simp) ?_
      refine AllReadyH.cons (o := ⟨some 38, _, _, _, _, _⟩) rfl (fun K hK => ?_) AllReadyH.nil
      go_simp
      go_at_call 183; refine (l01Div_ok _ _ _ (by omega) (by omega) (by omega) (by omega)).mono ?_; rintro e w6 ⟨rfl, rfl⟩
      (try go_wp2_with fail)
      refine hK.out _ _ (hHeld) (fun hHeld => ?_)
      clear hK K
      try simp only [Act.put, List.setIfInBounds_toArray, List.set_cons_zero, List.set_cons_succ]
      refine wpAnyH_ready (rs := [25]) (by kernel_rfl) (by simp) ?_
      refine AllReadyH.cons (o := ⟨some 39, _, _, _, _, _⟩) rfl (fun K hK => ?_) AllReadyH.nil
      go_simp
      refine hK.out _ _ (HS _ (hHeld.1.2.alloc hHeld.1.2.size _)) (fun hHeld => ?_)
      clear hK K
      try simp only [Act.put, List.setIfInBounds_toArray, List.set_cons_zero, List.set_cons_succ]
      refine wpAnyH_ready (rs := [26]) (by kernel_rfl) (by simp) ?_
      refine AllReadyH.cons (o := ⟨some 40, _, _, _, _, _⟩) rfl (fun K hK => ?_) AllReadyH.nil
      refine step_app (w0 := w) rfl (.tmp 14) (.tmp 39) 24 rfl w.heap.size 2 (.int .i64 0) 1 8 Try.underlying24 infoI rfl (by decide) _ k _ rfl (own_below HO.out (Below.refl _ _).drew) #[.int .i64 (divR (ns[k] * (1000 - x.fCover) + x.fIn[k] * x.fCover) 1000)] 1 1 rfl rfl (by simp [Value.oneCell']) (by omega) (by omega) HB.out.drew.size HB.out.drew ?_
      intro v1 w1 hown1 hbel1
      refine hK.out _ _ (HS _ hbel1) (fun hHeld => ?_)
      clear hK K
      try simp only [Act.put, List.setIfInBounds_toArray, List.set_cons_zero, List.set_cons_succ]
      refine wpAnyH_take (i := 27) (oi := ⟨some 5, _, _, _, _, _⟩) (v := ?_) rfl (by kernel_rfl) (by kernel_rfl) (by kernel_rfl) (fun _ _ _ h => h) (Or.inl ⟨by rfl, ?_⟩) (by assumption) ?_
      rotate_left
      · (intro w hSw; (try dsimp only at hSw); go_simp; try with_reducible rfl)
      try simp only [Act.put, List.setIfInBounds_toArray, List.set_cons_zero, List.set_cons_succ]
      refine wpAnyH_done (by kernel_rfl) ?_ _
      go_wp2_with fail
      go_roundw
      case rel => exact ⟨k + 1, by omega, by go_num, by rw [← HE.out]; exact hown1, hbel1⟩
      case measure => simp [intOf]; omega
    · have hk2 : k = ns.length := by omega
      subst hk2
      go_wp2_with fail
      go_ret
      exact RetI.own (by have h := HO.out; rw [List.take_of_length_le (by rw [LE.out]; exact Nat.le_refl _)] at h; rw [LE.out]; exact h) HB.out

end Go.Proofs.Ytdbjbkdcmhekfaa
