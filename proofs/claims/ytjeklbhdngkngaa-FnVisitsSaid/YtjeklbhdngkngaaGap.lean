/- The gaps between a customer's visits. -/
import Derived.Test.YtjeklbhdngkngaaVfM
import Derived.Test.YtjeklbhdngkngaaInts
import Derived.Test.YtjeklbhdngkngaaApp2
import Derived.Deep.RegionWith
import Derived.Deep.RegionLaw
import Derived.Deep.AppendLies
import Derived.Maps.AppendAt
namespace Go.Proofs.Ytjeklbhdngkngaa
open Go.RowKit
set_option linter.unusedVariables false

/-- append, as one step of a region that draws, and which block the row then lies in -/
theorem step_appB {P : Program} {w0 wr : World} {ops : Array Oper} {o : Oper} {a : Act} {K : Act → World → Prop} {Q : Exit → Act → World → Prop} {E : Prop} (hgd : o.guard = none) (s x : Operand) (t : TypeId)
    (ho : o.op = .call { callee := .builtin .append, args := #[s, x], argTypes := #[t, t] })
    (B : Nat) (e : TypeId) (z : Value) (size bytes : Nat) (ht : P.underlying t = some (.slice e)) (hinfo : (P.info? e).map (fun i => (i.zero, i.size, i.bytes)) = some (some z, size, bytes)) (hzs : z.cells.size = size) (hsz : 0 < size)
    (v : Value) (n : Nat) (xs : List Value) (hs : a.eval s = v) (hown : wr.ownsRow B e size v n xs)
    (cs : Array Value) (m c : Nat) (hx : a.eval x = .slice (some ⟨wr.heap.size, 0, none⟩) m c) (hl : cs.size = m * size) (h1 : ∀ u ∈ cs.toList, u.oneCell' = true)
    (hbytes : (n + m) * (bytes + 1) ≤ 140737488355328) (hbase : B ≤ wr.heap.size) (hbel : Below B w0 wr)
    (h : ∀ v' w', w'.ownsRow B e size v' (n + m) (xs ++ cs.toList) → Below B w0 w' → (wr.alloc (.cells cs e)).grownBy w' v.ownBlock → (v'.ownBlock = v.ownBlock ∨ v'.ownBlock = some (wr.heap.size + 1)) → K (a.put o.dst v') w') :
    if Region.wanted o (yielded ops a.tmps) = true then Oper.wp P o a (wr.alloc (.cells cs e)) K Q else E := by
  have hw : Region.wanted o (yielded ops a.tmps) = true := by simp [Region.wanted, hgd]
  rw [if_pos hw]
  obtain ⟨i0, hi, hz0, hz1, hz2⟩ := info_parts hinfo
  have hnm : n + m ≤ (n + m) * (bytes + 1) := Nat.le_mul_of_pos_right _ (by omega)
  have hb2 : (n + m) * bytes ≤ (n + m) * (bytes + 1) := Nat.mul_le_mul_left _ (by omega)
  obtain ⟨v', w', hr, h2, h3, h4, h5⟩ := run_append_own_at (P := P) (w := wr.alloc (.cells cs e)) B t o.type e i0 z size bytes ht hi hz0 hz1 hz2 hzs hsz v n xs (hown.alloc _) ⟨wr.heap.size, 0, none⟩ m c cs.toList (by simpa using hl) (World.news_of_block (heap_alloc_new wr _)) h1 (by unfold maxLen; omega) (by omega) (by simp; omega)
  unfold Oper.wp execOp
  simp only [ho, resolve, invoke, builtin, Sem.run_bind, Sem.run_pure, Result.andThen_ok, List.map_toArray, List.map_cons, List.map_nil, hs, hx, hr]
  exact h v' w' h2 ((hbel.alloc hbase _).grown h3 (by simp; omega) (fun k hk => (hown.lt k hk).1)) h3 (h5.imp id fun h9 => by rw [h9]; simp)

set_option maxHeartbeats 1600000 in
set_option maxRecDepth 100000 in
theorem gapsOf_ok (A : Option Addr) (c : Nat) (xs : List DVisit) (who : ByteArray) (w : World) (hA : RowsAt w 4 A (xs.map DVisit.cells)) (hok : ∀ x ∈ xs, x.ok) (hn : xs.length ≤ 1048576) (hnone : A = none → c = 0) (hv : visitsB xs = true) (gs : List Int) (hgs : gapsI xs who = gs) :
    Calls Try.prog 49 #[.slice A xs.length c, .string who] w fun e w' => (∃ g c', e = .returned (.tuple #[.slice (some ⟨g, 0, none⟩) gs.length c', .int .i64 0]) ∧ w'.ownsRow w.heap.size 2 1 (.slice (some ⟨g, 0, none⟩) gs.length c') gs.length (gs.map (Value.int .i64))) ∧ Below w.heap.size w w' := by
  have HA := hid hA
  have HK := hid hok
  have HN := hid hnone
  have hvv := visitsB_iff.1 hv
  have h32 := hvv.2
  obtain ⟨V, hV⟩ : ∃ V, visF xs who = V := ⟨_, rfl⟩
  have hday : ∀ x ∈ V, DayIn x := by rw [← hV]; exact visF_day hvv.1 who
  have hlen : V.length ≤ 32 := by have := visF_le xs who; rw [hV] at this; omega
  have HG := hid (show gapsT V (V.length - 1) = gs by rw [← hgs]; unfold gapsI; rw [hV])
  have HLS := hid hV
  have HD := hid hday
  have HV := hid hv
  clear hA hok hnone hvv hV hday hgs hv
  have CELL : ∀ (wx : World) {B g c1 : Nat}, wx.ownsRow B 76 4 (.slice (some ⟨g, 0, none⟩) V.length c1) V.length (V.map DVisit.cells).flatten → ∀ k, k < V.length → ∀ d, dayAt V k = d → wx.cell? ⟨g, k * 4, none⟩ = some (.int .i64 d) := fun wx {B g c1} ho k hk d hd => by
    rw [ho.cellAt (k * 4) (by omega), ← hd, dayAt_at hk]
    exact (flatten_at (j := 0) (cellsVisit_len _) (show (V.map DVisit.cells)[k]? = some V[k].cells by rw [List.getElem?_map, List.getElem?_eq_getElem hk]; rfl) (by omega)).trans rfl
  go_enter Try.func49, Try.ntmps49
  go_wp2_with fail
  refine (ValidVisits_ok A c xs _ HA.out HK.out hn).mono ?_
  rintro e w1 ⟨rfl, hb⟩
  rw [HV.out]
  have B1 := hid hb
  clear hb
  go_wp2_with (go_at_call 114; refine (visitsOf_gen _ _ xs who _ ((HA.out.below B1.out).below (below_alloc _ _)) (by omega) HN.out V HLS.out).mono ?_; rintro e w2 ⟨⟨g, c1, rfl, ho⟩, hb⟩; have O1 := hid ho; have B2 := hid hb; clear ho hb)
  have L1 := hid (own_below (World.ownsRow_lit (base := w1.heap.size) (e := 2) (size := 1) w1 #[] 0 (Nat.le_refl _) (by unfold maxLen; omega) rfl) B2.out)
  have hg1 : w1.heap.size + 1 ≤ g := by have := (O1.out.lt g rfl).1; simpa using this
  have hB3 := hid (show Below w1.heap.size w1 w2 from (below_alloc w1 _).trans (B2.out.mono (by simp)))
  go_loopw [6, 8] (fun v i wr => ∃ (k g5 c5 : Nat), (k = 0 ∨ k + 1 ≤ V.length) ∧ i = .int .i64 ((k : Int) + 1) ∧ v = .slice (some ⟨g5, 0, none⟩) k c5 ∧ ¬ g = g5 ∧ wr.ownsRow w1.heap.size 2 1 (.slice (some ⟨g5, 0, none⟩) k c5) k ((gapsT V k).map (Value.int .i64)) ∧ wr.ownsRow w1.heap.size 76 4 (.slice (some ⟨g, 0, none⟩) V.length c1) V.length (V.map DVisit.cells).flatten ∧ Below w1.heap.size w1 wr) (fun _ i _ => V.length - (intOf i).toNat)
  case atStart => exact ⟨0, w1.heap.size, 0, .inl rfl, rfl, rfl, by omega, L1.out, own_mono O1.out (by simp), hB3.out⟩
  case round =>
    obtain ⟨k, g5, c5, hk, rfl, rfl, hne, ho5, hv5, hb5⟩ := hrel
    have O5 := hid ho5
    have V5 := hid hv5
    have B5 := hid hb5
    have hw1 := hb5.size
    have hgw := (hv5.lt g rfl).2
    clear ho5 hv5 hb5
    by_cases hkl : k + 1 < V.length
    · obtain ⟨d1, hd1⟩ : ∃ d, dayAt V (k + 1) = d := ⟨_, rfl⟩
      obtain ⟨d0, hd0⟩ : ∃ d, dayAt V k = d := ⟨_, rfl⟩
      have c5' := CELL _ V5.out (k + 1) hkl d1 hd1
      have c4' := CELL _ V5.out k (by omega) d0 hd0
      have b1 := dayAt_bd HD.out (k + 1)
      have b0 := dayAt_bd HD.out k
      rw [hd1] at b1
      rw [hd0] at b0
      obtain ⟨b10, b11⟩ := b1
      obtain ⟨b00, b01⟩ := b0
      have D1 := hid hd1
      have D0 := hid hd0
      have HE := hid (show (gapsT V k).map (Value.int .i64) ++ [.int .i64 (d1 - d0)] = (gapsT V (k + 1)).map (Value.int .i64) by rw [gapsT, hd1, hd0, List.map_append]; rfl)
      clear hd1 hd0
      have m5 : wr.cell? ⟨g, (k + 1) * 4, none⟩ = some (.int .i64 d1) := c5'
      have m4 : wr.cell? ⟨g, k * 4, none⟩ = some (.int .i64 d0) := c4'
      clear c5' c4'
      have q0 : (0 : Int) ≤ (k : Int) := by omega
      have q1 : (k : Int) + 1 < (V.length : Int) := by omega
      have e1 : ((k : Int) + 1).toNat = k + 1 := by omega
      have e2 : (k : Int) + 1 - 1 = k := by omega
      have q9 : (0 : Int) ≤ (k : Int) + 1 := by omega
      have q8 : (k : Int) < (V.length : Int) := by omega
      have qw : IntKind.i64.wrap (k : Int) = (k : Int) := IntWalk.i64_in _ (by omega)
      have qd : IntKind.i64.wrap (d1 - d0) = d1 - d0 := IntWalk.i64_in _ (by omega)
      go_wp2_with fail
      refine wp_region_held_drew (S := (fun w' => (True ∧ Below w1.heap.size w1 w') ∧ w'.cell? ⟨g, (k + 1) * 4, none⟩ = some (.int .i64 d1) ∧ w'.cell? ⟨g, k * 4, none⟩ = some (.int .i64 d0))) (by kernel_rfl) ⟨⟨trivial, B5.out.drew⟩, m5, m4⟩ (fun hHeld => ?_)
      refine wpAnyH_take (i := 0) (oi := ⟨some 22, _, _, _, _, _⟩) (v := ?_) rfl (by kernel_rfl) (by kernel_rfl) (by kernel_rfl) (fun _ _ _ h => h) (Or.inl ⟨by rfl, ?_⟩) (by assumption) ?_
      rotate_left
      · (intro w hSw; (try dsimp only at hSw); go_simp; try with_reducible rfl)
      try simp only [Act.put, List.setIfInBounds_toArray, List.set_cons_zero, List.set_cons_succ]
      refine wpAnyH_take (i := 1) (oi := ⟨some 23, _, _, _, _, _⟩) (v := ?_) rfl (by kernel_rfl) (by kernel_rfl) (by kernel_rfl) (fun _ _ _ h => h) (Or.inl ⟨by rfl, ?_⟩) (by assumption) ?_
      rotate_left
      · (intro w hSw; (try dsimp only at hSw); go_simp; try with_reducible rfl)
      try simp only [Act.put, List.setIfInBounds_toArray, List.set_cons_zero, List.set_cons_succ]
      refine wpAnyH_take (i := 2) (oi := ⟨some 24, _, _, _, _, _⟩) (v := ?_) rfl (by kernel_rfl) (by kernel_rfl) (by kernel_rfl) (fun _ _ _ h => h) (Or.inl ⟨by rfl, ?_⟩) (by assumption) ?_
      rotate_left
      · (intro w hSw; (try dsimp only at hSw); go_simp; try with_reducible rfl)
      try simp only [Act.put, List.setIfInBounds_toArray, List.set_cons_zero, List.set_cons_succ]
      refine wpAnyH_take (i := 3) (oi := ⟨some 25, _, _, _, _, _⟩) (v := ?_) rfl (by kernel_rfl) (by kernel_rfl) (by kernel_rfl) (fun _ _ _ h => h) (Or.inl ⟨by rfl, ?_⟩) (by assumption) ?_
      rotate_left
      · (intro w hSw; (try dsimp only at hSw); go_simp; try with_reducible rfl)
      try simp only [Act.put, List.setIfInBounds_toArray, List.set_cons_zero, List.set_cons_succ]
      refine wpAnyH_take (i := 4) (oi := ⟨some 26, _, _, _, _, _⟩) (v := ?_) rfl (by kernel_rfl) (by kernel_rfl) (by kernel_rfl) (fun _ _ _ h => h) (Or.inl ⟨by rfl, ?_⟩) (by assumption) ?_
      rotate_left
      · (intro w hSw; (try dsimp only at hSw); go_simp; try with_reducible rfl)
      try simp only [Act.put, List.setIfInBounds_toArray, List.set_cons_zero, List.set_cons_succ]
      refine wpAnyH_take (i := 5) (oi := ⟨some 27, _, _, _, _, _⟩) (v := ?_) rfl (by kernel_rfl) (by kernel_rfl) (by kernel_rfl) (fun _ _ _ h => h) (Or.inl ⟨by rfl, ?_⟩) (by assumption) ?_
      rotate_left
      · (intro w hSw; (try dsimp only at hSw); go_simp; try with_reducible rfl)
      try simp only [Act.put, List.setIfInBounds_toArray, List.set_cons_zero, List.set_cons_succ]
      refine wpAnyH_take (i := 6) (oi := ⟨some 28, _, _, _, _, _⟩) (v := ?_) rfl (by kernel_rfl) (by kernel_rfl) (by kernel_rfl) (fun _ _ _ h => h) (Or.inl ⟨by rfl, ?_⟩) (by assumption) ?_
      rotate_left
      · (intro w hSw; (try dsimp only at hSw); go_simp; try with_reducible rfl)
      try simp only [Act.put, List.setIfInBounds_toArray, List.set_cons_zero, List.set_cons_succ]
      refine wpAnyH_take (i := 7) (oi := ⟨some 29, _, _, _, _, _⟩) (v := ?_) rfl (by kernel_rfl) (by kernel_rfl) (by kernel_rfl) (fun _ _ _ h => h) (Or.inl ⟨by rfl, ?_⟩) (by assumption) ?_
      rotate_left
      · (intro w hSw; (try dsimp only at hSw); go_simp; try with_reducible rfl)
      try simp only [Act.put, List.setIfInBounds_toArray, List.set_cons_zero, List.set_cons_succ]
      refine wpAnyH_take (i := 8) (oi := ⟨some 30, _, _, _, _, _⟩) (v := ?_) rfl (by kernel_rfl) (by kernel_rfl) (by kernel_rfl) (fun _ _ _ h => h) (Or.inl ⟨by rfl, ?_⟩) (by assumption) ?_
      rotate_left
      · (intro w hSw; (try dsimp only at hSw); go_simp; try with_reducible rfl)
      try simp only [Act.put, List.setIfInBounds_toArray, List.set_cons_zero, List.set_cons_succ]
      refine wpAnyH_take (i := 9) (oi := ⟨some 31, _, _, _, _, _⟩) (v := ?_) rfl (by kernel_rfl) (by kernel_rfl) (by kernel_rfl) (fun _ _ _ h => h) (Or.inl ⟨by rfl, ?_⟩) (by assumption) ?_
      rotate_left
      · (intro w hSw; (try dsimp only at hSw); go_simp; try with_reducible rfl)
      try simp only [Act.put, List.setIfInBounds_toArray, List.set_cons_zero, List.set_cons_succ]
      refine wpAnyH_take (i := 10) (oi := ⟨some 32, _, _, _, _, _⟩) (v := ?_) rfl (by kernel_rfl) (by kernel_rfl) (by kernel_rfl) (fun _ _ _ h => h) (Or.inl ⟨by rfl, ?_⟩) (by assumption) ?_
      rotate_left
      · (intro w hSw; (try dsimp only at hSw); go_simp; try with_reducible rfl)
      try simp only [Act.put, List.setIfInBounds_toArray, List.set_cons_zero, List.set_cons_succ]
      refine wpAnyH_take (i := 11) (oi := ⟨some 33, _, _, _, _, _⟩) (v := ?_) rfl (by kernel_rfl) (by kernel_rfl) (by kernel_rfl) (fun _ _ _ h => h) (Or.inl ⟨by rfl, ?_⟩) (by assumption) ?_
      rotate_left
      · (intro w hSw; (try dsimp only at hSw); go_simp; try with_reducible rfl)
      try simp only [Act.put, List.setIfInBounds_toArray, List.set_cons_zero, List.set_cons_succ]
      refine wpAnyH_take (i := 12) (oi := ⟨some 34, _, _, _, _, _⟩) (v := ?_) rfl (by kernel_rfl) (by kernel_rfl) (by kernel_rfl) (fun _ _ _ h => h) (Or.inl ⟨by rfl, ?_⟩) (by assumption) ?_
      rotate_left
      · (intro w hSw; (try dsimp only at hSw); go_simp; try with_reducible rfl)
      try simp only [Act.put, List.setIfInBounds_toArray, List.set_cons_zero, List.set_cons_succ]
      refine wpAnyH_ready (rs := [13]) (by kernel_rfl) (by simp) ?_
      refine AllReadyH.cons (o := ⟨some 35, _, _, _, _, _⟩) rfl (fun K hK => ?_) AllReadyH.nil
      go_simp
      refine hK.out _ _ (⟨⟨trivial, below_up hHeld.1.2 hHeld.1.2.size (below_alloc _ _)⟩, ((below_alloc _ _).cell (p := ⟨g, (k + 1) * 4, none⟩) hgw).trans hHeld.2.1, ((below_alloc _ _).cell (p := ⟨g, k * 4, none⟩) hgw).trans hHeld.2.2⟩) (fun hHeld => ?_)
      clear hK K
      try simp only [Act.put, List.setIfInBounds_toArray, List.set_cons_zero, List.set_cons_succ]
      refine wpAnyH_ready (rs := [14]) (by kernel_rfl) (by simp) ?_
      refine AllReadyH.cons (o := ⟨some 36, _, _, _, _, _⟩) rfl (fun K hK => ?_) AllReadyH.nil
      refine step_appB (w0 := w1) (wr := wr.drew) rfl (.tmp 22) (.tmp 35) 70 rfl w1.heap.size 2 (.int .i64 0) 1 8 Try.underlying70 infoI rfl (by decide) (.slice (some ⟨g5, 0, none⟩) k c5) k _ (by rfl) O5.out #[.int .i64 (d1 - d0)] 1 1 (by rfl) rfl (by simp [Value.oneCell']) (by omega) hw1 B5.out.drew ?_
      intro v9 w9 hown9 hbel9 hg9 hb9
      have K9 := two_kept (w := wr.drew) (v2 := .slice (some ⟨g, 0, none⟩) V.length c1) V5.out (fun e => hne (by injection e)) hg9 hb9
      have X9 := hid hbel9
      have N9 := hid K9
      have O9 := hid hown9
      have K5 := hid (show w9.cell? ⟨g, (k + 1) * 4, none⟩ = some (.int .i64 d1) from CELL _ K9.1 (k + 1) hkl d1 D1.out)
      have K4 := hid (show w9.cell? ⟨g, k * 4, none⟩ = some (.int .i64 d0) from CELL _ K9.1 k (by omega) d0 D0.out)
      clear hown9 hbel9 hg9 hb9 K9
      refine hK.out _ _ (⟨⟨trivial, X9.out⟩, K5.out, K4.out⟩) (fun hHeld => ?_)
      clear hK K
      try simp only [Act.put, List.setIfInBounds_toArray, List.set_cons_zero, List.set_cons_succ]
      refine wpAnyH_take (i := 15) (oi := ⟨some 6, _, _, _, _, _⟩) (v := ?_) rfl (by kernel_rfl) (by kernel_rfl) (by kernel_rfl) (fun _ _ _ h => h) (Or.inl ⟨by rfl, ?_⟩) (by assumption) ?_
      rotate_left
      · (intro w hSw; (try dsimp only at hSw); go_simp; try with_reducible rfl)
      try simp only [Act.put, List.setIfInBounds_toArray, List.set_cons_zero, List.set_cons_succ]
      refine wpAnyH_done (by kernel_rfl) ?_ _
      go_wp2_with fail
      go_roundw
      case rel =>
        obtain ⟨g9, c9, rfl, hl9, hl92, _⟩ := own_form O9.out (by omega)
        refine ⟨k + 1, g9, c9, .inr (by omega), by go_num, rfl, fun e => N9.out.2 (show some g = some g9 by rw [e]), ?_, N9.out.1, X9.out⟩
        rw [← HE.out]
        exact O9.out
      case measure => simp [intOf]; omega
    · have q1 : ¬ (k : Int) + 1 < (V.length : Int) := by omega
      have hk2 : k = V.length - 1 := by omega
      have e9 := hid (show (gapsT V k) = gs by rw [hk2]; exact HG.out)
      have e8 := hid (show gs.length = k by rw [← e9.out, gapsT_length])
      clear hk2
      go_wp2_with fail
      go_ret2
      refine ⟨⟨g5, c5, by rw [e8.out]; first | done | rfl, ?_⟩, below_up B1.out B1.out.size B5.out⟩
      rw [← e9.out, gapsT_length]
      exact own_mono O5.out B1.out.size

end Go.Proofs.Ytjeklbhdngkngaa
