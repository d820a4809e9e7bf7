/- What a customer has spent: the program, the reference, the order. -/
import Derived.Test.YtjeklbhdngkngaaVis
import Derived.Test.YtjeklbhdngkngaaHeldT
import Derived.Test.YtjeklbhdngkngaaStabS
namespace Go.Proofs.Ytjeklbhdngkngaa
open Go.RowKit
set_option linter.unusedVariables false

def spentL (l : List DVisit) : Int := (l.map DVisit.fAmount).sum
def spentI (xs : List DVisit) (who : ByteArray) : Int := spentL (visF xs who)
def AmtIn (x : DVisit) : Prop := 0 ≤ x.fAmount ∧ x.fAmount ≤ 10000000
theorem spentL_app (a b : List DVisit) : spentL (a ++ b) = spentL a + spentL b := by unfold spentL; rw [List.map_append, List.sum_append]
theorem spentL_one (x : DVisit) : spentL [x] = x.fAmount := by simp [spentL]
theorem spentL_bd : ∀ {l : List DVisit}, (∀ x ∈ l, AmtIn x) → 0 ≤ spentL l ∧ spentL l ≤ 10000000 * (l.length : Int)
  | [], _ => by simp [spentL]
  | x :: l, h => by
    have h1 := spentL_bd (l := l) fun y hy => h y (List.mem_cons_of_mem _ hy)
    have h2 := h x (by simp)
    unfold AmtIn at h2
    have e : spentL (x :: l) = x.fAmount + spentL l := by simp [spentL]
    rw [e, List.length_cons]
    omega
theorem visits_amt {xs : List DVisit} (h : VisitsTo xs xs.length) : ∀ x ∈ xs, AmtIn x := fun x hx => by
  obtain ⟨i, hi, rfl⟩ := List.getElem_of_mem hx
  have h1 := (h i hi hi).1
  unfold visitD visitB inB at h1
  simp only [Bool.and_eq_true, decide_eq_true_eq] at h1
  exact h1.2.2.2
theorem visF_amt {xs : List DVisit} (h : ∀ x ∈ xs, AmtIn x) (who : ByteArray) : ∀ x ∈ visF xs who, AmtIn x := fun x hx => h x (List.mem_filter.1 hx).1
theorem spentI_bd {xs : List DVisit} (h : ∀ x ∈ xs, AmtIn x) (hn : xs.length ≤ 32) (who : ByteArray) : 0 ≤ spentI xs who ∧ spentI xs who ≤ 320000000 := by
  have h1 := spentL_bd (visF_amt h who)
  have h2 := visF_le xs who
  unfold spentI
  omega
theorem spentL_take {l : List DVisit} {k : Nat} (h : k < l.length) : spentL (l.take (k + 1)) = spentL (l.take k) + l[k].fAmount := by rw [List.take_succ_eq_append_getElem h, spentL_app, spentL_one]
theorem visF_take {xs : List DVisit} {who : ByteArray} {k : Nat} (h : k < xs.length) : visF (xs.take (k + 1)) who = visF (xs.take k) who ++ visF [xs[k]] who := by unfold visF; rw [List.take_succ_eq_append_getElem h, List.filter_append]
theorem spentT_yes {xs : List DVisit} {who : ByteArray} {k : Nat} (h : k < xs.length) (d : (xs[k].fWho.toList == who.toList) = true) : spentI (xs.take (k + 1)) who = spentI (xs.take k) who + xs[k].fAmount := by
  unfold spentI
  rw [visF_take h, spentL_app, show visF [xs[k]] who = [xs[k]] by simp [visF, notOf, d], spentL_one]
theorem spentT_no {xs : List DVisit} {who : ByteArray} {k : Nat} (h : k < xs.length) (d : (xs[k].fWho.toList == who.toList) = false) : spentI (xs.take (k + 1)) who = spentI (xs.take k) who := by
  unfold spentI
  rw [visF_take h, spentL_app, show visF [xs[k]] who = [] by simp [visF, notOf, d]]
  simp [spentL]
theorem visitsOf_gen (A : Option Addr) (c : Nat) (xs : List DVisit) (who : ByteArray) (w : World) (hA : RowsAt w 4 A (xs.map DVisit.cells)) (hn : xs.length ≤ 100000) (hnone : A = none → c = 0) (ls : List DVisit) (hls : visF xs who = ls) :
    Calls Try.prog 114 #[.slice A xs.length c, .string who] w fun e w' => (∃ g c', e = .returned (.slice (some ⟨g, 0, none⟩) ls.length c') ∧ w'.ownsRow w.heap.size 76 4 (.slice (some ⟨g, 0, none⟩) ls.length c') ls.length (ls.map DVisit.cells).flatten) ∧ Below w.heap.size w w' := by
  subst hls
  exact visitsOf_ok A c xs who w hA hn hnone
set_option maxHeartbeats 1600000 in
set_option maxRecDepth 100000 in
theorem spent_ok (A : Option Addr) (c : Nat) (xs : List DVisit) (who : ByteArray) (w : World) (hA : RowsAt w 4 A (xs.map DVisit.cells)) (hn : xs.length ≤ 32) (hnone : A = none → c = 0) (hamt : ∀ x ∈ xs, AmtIn x) (r : Int) (hr : spentI xs who = r) :
    Calls Try.prog 106 #[.slice A xs.length c, .string who] w fun e w' => e = .returned (.int .i64 r) ∧ Below w.heap.size w w' := by
  have HA := hid hA
  have HN := hid hnone
  obtain ⟨ls, hls⟩ : ∃ ls, visF xs who = ls := ⟨_, rfl⟩
  have ham : ∀ x ∈ ls, AmtIn x := by rw [← hls]; exact visF_amt hamt who
  have hlen : ls.length ≤ 32 := by have := visF_le xs who; rw [hls] at this; omega
  have HLS := hid hls
  have HAM := hid ham
  have HR := hid (show spentL ls = r by rw [← hls]; exact hr)
  clear hA hnone hls hamt ham hr
  go_enter Try.func106, Try.ntmps106
  go_wp2_with (go_at_call 114; refine (visitsOf_gen _ _ xs who _ HA.out (by omega) HN.out ls HLS.out).mono ?_; rintro e w1 ⟨⟨g, c1, rfl, ho⟩, hb⟩; have O1 := hid ho; have B1 := hid hb; clear ho hb)
  go_loopw [5, 12] (fun v i wr => ∃ k : Nat, k ≤ ls.length ∧ i = .int .i64 (k : Int) ∧ v = .int .i64 (spentL (ls.take k)) ∧ Below w1.heap.size w1 wr) (fun _ i _ => ls.length - (intOf i).toNat)
  case atStart => exact ⟨0, Nat.zero_le _, rfl, by simp [spentL], Below.refl _ _⟩
  case round =>
    obtain ⟨k, hk, rfl, rfl, hbel⟩ := hrel
    have HB := hid hbel
    have O2 := hid (own_below O1.out hbel)
    clear hbel
    by_cases hkl : k < ls.length
    · obtain ⟨x, hx⟩ : ∃ x, x = ls[k] := ⟨_, rfl⟩
      obtain ⟨t, ht⟩ : ∃ t, t = spentL (ls.take k) := ⟨_, rfl⟩
      have hx9 : (ls.map DVisit.cells)[k]? = some x.cells := by rw [List.getElem?_map, List.getElem?_eq_getElem hkl, hx]; rfl
      have a0 : wr.cell? ⟨g, k * 4, none⟩ = some (.int .i64 x.fDay) := by rw [O2.out.cellAt (k * 4) (by omega)]; exact (flatten_at (j := 0) (cellsVisit_len _) hx9 (by omega)).trans rfl
      have a1 : wr.cell? ⟨g, k * 4 + 1, none⟩ = some (.string x.fWho) := by rw [O2.out.cellAt (k * 4 + 1) (by omega)]; exact (flatten_at (j := 1) (cellsVisit_len _) hx9 (by omega)).trans rfl
      have a2 : wr.cell? ⟨g, k * 4 + 2, none⟩ = some (.int .i64 x.fKind) := by rw [O2.out.cellAt (k * 4 + 2) (by omega)]; exact (flatten_at (j := 2) (cellsVisit_len _) hx9 (by omega)).trans rfl
      have a3 : wr.cell? ⟨g, k * 4 + 3, none⟩ = some (.int .i64 x.fAmount) := by rw [O2.out.cellAt (k * 4 + 3) (by omega)]; exact (flatten_at (j := 3) (cellsVisit_len _) hx9 (by omega)).trans rfl
      have hb1 := HAM.out x (by rw [hx]; exact List.getElem_mem hkl)
      have hb2 := spentL_bd (l := ls.take k) fun y hy => HAM.out y (List.mem_of_mem_take hy)
      rw [← ht, List.length_take] at hb2
      unfold AmtIn at hb1
      obtain ⟨b1, b2⟩ := hb1
      have b3 : 0 ≤ t := hb2.1
      have b4 : t ≤ 320000000 := by omega
      have q0 : (0 : Int) ≤ (k : Int) := by omega
      have q1 : (k : Int) < (ls.length : Int) := by omega
      have HE := hid (show spentL (ls.take (k + 1)) = t + x.fAmount by rw [spentL_take hkl, ← hx, ht])
      rw [← ht]
      clear hx hx9 ht hb2
      go_wp2_with fail
      go_roundw
      case rel => exact ⟨k + 1, by omega, by go_num, by rw [HE.out], below_trans HB.out (below_alloc _ _)⟩
      case measure => simp [intOf]; omega
    · have hk2 : k = ls.length := by omega
      subst hk2
      have e9 := hid (show spentL (ls.take ls.length) = r by rw [List.take_length]; exact HR.out)
      rw [e9.out]
      go_wp2_with fail
      go_ret
      exact ⟨rfl, below_trans B1.out HB.out⟩
set_option maxHeartbeats 1600000 in
set_option maxRecDepth 100000 in
theorem l22Spent_ok (A : Option Addr) (c : Nat) (xs : List DVisit) (who : ByteArray) (w : World) (hA : RowsAt w 4 A (xs.map DVisit.cells)) (hn : xs.length ≤ 32) (hamt : ∀ x ∈ xs, AmtIn x) (r : Int) (hr : spentI xs who = r) :
    Calls Try.prog 102 #[.slice A xs.length c, .string who] w fun e w' => e = .returned (.int .i64 r) ∧ w = w' := by
  have HA := hid hA
  have HAM := hid hamt
  have HR := hid hr
  clear hA hamt hr
  go_enter Try.func102, Try.ntmps102
  go_wp2_with fail
  go_loop [5, 6] (fun h m => ∃ k : Nat, k ≤ xs.length ∧ m = .int .i64 k ∧ h = .int .i64 (spentI (xs.take k) who)) (fun _ m => xs.length - (intOf m).toNat)
  case atStart => exact ⟨0, Nat.zero_le _, rfl, by simp [spentI, visF, spentL]⟩
  case round =>
    obtain ⟨k, hk, rfl, rfl⟩ := hrel
    by_cases hkl : k < xs.length
    · have hne : xs.map DVisit.cells ≠ [] := by intro e; rw [List.map_eq_nil_iff] at e; rw [e] at hkl; exact absurd hkl (by simp)
      obtain ⟨b, o, rfl, hlt, hc⟩ := HA.out hne
      obtain ⟨t, ht⟩ : ∃ t, t = spentI (xs.take k) who := ⟨_, rfl⟩
      have HC := hid hc
      have hc1 : w.cell? ⟨b, o + k * 4 + 1, none⟩ = some (.string xs[k].fWho) := HC.out k _ (by rw [List.getElem?_map, List.getElem?_eq_getElem hkl]; rfl) 1 _ rfl
      have hc3 : w.cell? ⟨b, o + k * 4 + 3, none⟩ = some (.int .i64 xs[k].fAmount) := HC.out k _ (by rw [List.getElem?_map, List.getElem?_eq_getElem hkl]; rfl) 3 _ rfl
      have hb1 := HAM.out xs[k] (List.getElem_mem hkl)
      have hb2 := spentI_bd (xs := xs.take k) (fun y hy => HAM.out y (List.mem_of_mem_take hy)) (by rw [List.length_take]; omega) who
      rw [← ht] at hb2
      unfold AmtIn at hb1
      obtain ⟨b1, b2⟩ := hb1
      obtain ⟨b3, b4⟩ := hb2
      have q0 : (0 : Int) ≤ (k : Int) := by omega
      have q1 : (k : Int) < xs.length := by omega
      have HT := hid ht
      rw [← ht]
      clear hc hne ht
      cases d : (xs[k].fWho.toList == who.toList)
      · have HE := hid (spentT_no hkl d)
        go_wp2_with fail
        go_round
        case rel => exact ⟨k + 1, by omega, by go_num, by rw [HE.out, HT.out]⟩
        case measure => simp [intOf]; omega
      · have HE := hid (spentT_yes hkl d)
        go_wp2_with fail
        go_round
        case rel => exact ⟨k + 1, by omega, by go_num, by rw [HE.out, HT.out]⟩
        case measure => simp [intOf]; omega
    · have hk2 : k = xs.length := by omega
      subst hk2
      have e9 := hid (show spentI (xs.take xs.length) who = r by rw [List.take_length]; exact HR.out)
      rw [e9.out]
      go_wp2_with fail
      go_ret
      exact ⟨rfl, rfl⟩

/-- the order: who has spent more comes first -/
def keyB (xs : List DVisit) (s : ByteArray) : Int := - spentI xs s
set_option maxHeartbeats 1600000 in
set_option maxRecDepth 100000 in
theorem bestClo_ok (A : Option Addr) (c : Nat) (xs : List DVisit) (bx : Nat) (x y : ByteArray) (wr : World) (hA : RowsAt wr 4 A (xs.map DVisit.cells)) (hn : xs.length ≤ 32) (hnone : A = none → c = 0) (hamt : ∀ x ∈ xs, AmtIn x) (hbx : bx < wr.heap.size) (hcell : wr.cell? ⟨bx, 0, none⟩ = some (.slice A xs.length c)) :
    Calls Try.prog 105 #[.string x, .string y, .pointer (some ⟨bx, 0, none⟩)] wr fun e w' => e = .returned (.int .i64 (keyB xs x - keyB xs y)) ∧ Below wr.heap.size wr w' := by
  have HA := hid hA
  have HN := hid hnone
  have HAM := hid hamt
  obtain ⟨r1, hr1⟩ : ∃ r, spentI xs x = r := ⟨_, rfl⟩
  obtain ⟨r2, hr2⟩ : ∃ r, spentI xs y = r := ⟨_, rfl⟩
  have h1 := spentI_bd hamt hn x
  have h2 := spentI_bd hamt hn y
  rw [hr1] at h1
  rw [hr2] at h2
  have HK := hid (show keyB xs x - keyB xs y = r2 - r1 by unfold keyB; omega)
  have Hr1 := hid hr1
  have Hr2 := hid hr2
  have v1 : IntKind.i64.wrap (r2 - r1) = r2 - r1 := IntWalk.i64_in _ (by omega)
  obtain ⟨h11, h12⟩ := h1
  obtain ⟨h21, h22⟩ := h2
  clear hA hnone hamt hr1 hr2
  rw [HK.out]
  go_enter Try.func105, Try.ntmps105
  go_wp2_with fail
  refine wp_region_held_drew (S := (fun w' => (True ∧ Below wr.heap.size wr w') ∧ w'.cell? ⟨bx, 0, none⟩ = some (.slice A xs.length c))) (by kernel_rfl) ⟨⟨trivial, (Below.refl _ _).drew⟩, hcell⟩ (fun hHeld => ?_)
  refine wpAnyH_take (i := 0) (oi := ⟨some 6, _, _, _, _, _⟩) (v := ?_) rfl (by kernel_rfl) (by kernel_rfl) (by kernel_rfl) (fun _ _ _ h => h) (Or.inl ⟨by rfl, ?_⟩) (by assumption) ?_
  rotate_left
  · (intro w hSw; (try dsimp only at hSw); go_simp; try with_reducible rfl)
  try simp only [Act.put, List.setIfInBounds_toArray, List.set_cons_zero, List.set_cons_succ]
  refine wpAnyH_take (i := 1) (oi := ⟨some 7, _, _, _, _, _⟩) (v := ?_) rfl (by kernel_rfl) (by kernel_rfl) (by kernel_rfl) (fun _ _ _ h => h) (Or.inl ⟨by rfl, ?_⟩) (by assumption) ?_
  rotate_left
  · (intro w hSw; (try dsimp only at hSw); go_simp; try with_reducible rfl)
  try simp only [Act.put, List.setIfInBounds_toArray, List.set_cons_zero, List.set_cons_succ]
  refine wpAnyH_take (i := 3) (oi := ⟨some 9, _, _, _, _, _⟩) (v := ?_) rfl (by kernel_rfl) (by kernel_rfl) (by kernel_rfl) (fun _ _ _ h => h) (Or.inl ⟨by rfl, ?_⟩) (by assumption) ?_
  rotate_left
  · (intro w hSw; (try dsimp only at hSw); go_simp; try with_reducible rfl)
  try simp only [Act.put, List.setIfInBounds_toArray, List.set_cons_zero, List.set_cons_succ]
  refine wpAnyH_take (i := 4) (oi := ⟨some 10, _, _, _, _, _⟩) (v := ?_) rfl (by kernel_rfl) (by kernel_rfl) (by kernel_rfl) (fun _ _ _ h => h) (Or.inl ⟨by rfl, ?_⟩) (by assumption) ?_
  rotate_left
  · (intro w hSw; (try dsimp only at hSw); go_simp; try with_reducible rfl)
  try simp only [Act.put, List.setIfInBounds_toArray, List.set_cons_zero, List.set_cons_succ]
  refine wpAnyH_ready (rs := [2]) (by kernel_rfl) (by simp) ?_
  refine AllReadyH.cons (o := ⟨some 8, _, _, _, _, _⟩) rfl (fun K hK => ?_) AllReadyH.nil
  go_simp
  go_at_call 106; refine (spent_ok A c xs y _ (HA.out.below hHeld.1.2) hn HN.out HAM.out r2 Hr2.out).mono ?_; rintro e w6 ⟨rfl, hb6⟩
  (try go_wp2_with fail)
  refine hK.out _ _ (keepM1 hbx ‹_ ∧ _› hb6) (fun hHeld => ?_)
  clear hK K
  try simp only [Act.put, List.setIfInBounds_toArray, List.set_cons_zero, List.set_cons_succ]
  refine wpAnyH_ready (rs := [5]) (by kernel_rfl) (by simp) ?_
  refine AllReadyH.cons (o := ⟨some 11, _, _, _, _, _⟩) rfl (fun K hK => ?_) AllReadyH.nil
  go_simp
  go_at_call 106; refine (spent_ok A c xs x _ (HA.out.below hHeld.1.2) hn HN.out HAM.out r1 Hr1.out).mono ?_; rintro e w6 ⟨rfl, hb6⟩
  (try go_wp2_with fail)
  refine hK.out _ _ (keepM1 hbx ‹_ ∧ _› hb6) (fun hHeld => ?_)
  clear hK K
  try simp only [Act.put, List.setIfInBounds_toArray, List.set_cons_zero, List.set_cons_succ]
  refine wpAnyH_take (i := 6) (oi := ⟨some 12, _, _, _, _, _⟩) (v := ?_) rfl (by kernel_rfl) (by kernel_rfl) (by kernel_rfl) (fun _ _ _ h => h) (Or.inl ⟨by rfl, ?_⟩) (by assumption) ?_
  rotate_left
  · (intro w hSw; (try dsimp only at hSw); go_simp; try with_reducible rfl)
  try simp only [Act.put, List.setIfInBounds_toArray, List.set_cons_zero, List.set_cons_succ]
  refine wpAnyH_take (i := 7) (oi := ⟨some 5, _, _, _, _, _⟩) (v := ?_) rfl (by kernel_rfl) (by kernel_rfl) (by kernel_rfl) (fun _ _ _ h => h) (Or.inl ⟨by rfl, ?_⟩) (by assumption) ?_
  rotate_left
  · (intro w hSw; (try dsimp only at hSw); go_simp; try with_reducible rfl)
  try simp only [Act.put, List.setIfInBounds_toArray, List.set_cons_zero, List.set_cons_succ]
  refine wpAnyH_done (by kernel_rfl) ?_ _
  obtain ⟨⟨-, hBw⟩, -⟩ := hHeld
  go_wp2_with fail
  go_ret
  exact ⟨rfl, hBw⟩
theorem cmpB_ok (A : Option Addr) (c : Nat) (xs : List DVisit) (bx g : Nat) (w1 w0 : World) (hA : RowsAt w1 4 A (xs.map DVisit.cells)) (hn : xs.length ≤ 32) (hnone : A = none → c = 0) (hamt : ∀ x ∈ xs, AmtIn x) (hbx : bx < w1.heap.size) (hcell : w1.cell? ⟨bx, 0, none⟩ = some (.slice A xs.length c)) (hb : Below w1.heap.size w1 w0) (hg : w1.heap.size ≤ g) (hg0 : g ≤ w0.heap.size) : CmpS (keyB xs) (fun _ => True) g bx w0 := by
  intro w hch x y _ _
  have hb2 : Below w1.heap.size w1 w := hb.trans ((hch.below hg0).mono hg)
  exact bestClo_ok A c xs bx x y w (hA.below hb2) hn hnone hamt (Nat.lt_of_lt_of_le hbx hb2.size) ((hb2.cell (p := ⟨bx, 0, none⟩) hbx).trans hcell)

end Go.Proofs.Ytjeklbhdngkngaa
