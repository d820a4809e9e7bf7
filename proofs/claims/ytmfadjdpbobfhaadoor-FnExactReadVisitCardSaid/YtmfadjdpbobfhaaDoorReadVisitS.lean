/- ReadVisit: the reference. -/
import Derived.Test.YtmfadjdpbobfhaaDoorReadVisitM
import Derived.Test.YtmfadjdpbobfhaaDoorReadPartS
import Derived.Test.YtmfadjdpbobfhaaDoorRowsKit
import Derived.Stop.LaidErr
namespace Go.Proofs.YtmfadjdpbobfhaaDoor
open Go.RowKit
set_option linter.unusedVariables false

/-- the kind that stands behind the kinds below m -/
def kdN (c : List UInt8) : Nat → Int
  | 0 => 0
  | m + 1 => if 1 ≤ m ∧ c = (kindT (m : Int)).data.toList then (m : Int) else kdN c m
theorem kdN_yes {c : List UInt8} {m : Nat} (h : 1 ≤ m) (hc : (kindT (m : Int)).data.toList = c) : kdN c (m + 1) = m := by rw [kdN, if_pos ⟨h, hc.symm⟩]
theorem kdN_no {c : List UInt8} {m : Nat} (hc : (kindT (m : Int)).data.toList ≠ c) : kdN c (m + 1) = kdN c m := by rw [kdN, if_neg (fun h => hc h.2.symm)]
theorem kdN_one (c : List UInt8) : kdN c 1 = 0 := by rw [kdN, if_neg (by omega)]; rfl
theorem kdN_all (c : List UInt8) : kdN c 5 = kindOf c := by
  rw [kdN, kdN, kdN, kdN, kdN_one]
  unfold kindOf
  simp
theorem fVisit_gen {l a b c d : List UInt8} (h1 : splitC 32 l = [a, b, c, d]) : fVisit l = if ((numO a).isSome && ((numO d).isSome && visitB ((numO a).getD 0) (tB b) (kindOf c) ((numO d).getD 0))) = true then some ((numO a).getD 0, tB b, kindOf c, (numO d).getD 0) else none := by
  rw [fVisit_at h1]
  cases numO a <;> cases numO d <;> simp
theorem own_other {w : World} {B g n cap m size : Nat} {e : TypeId} {xs : List Value} (h : w.ownsRow B e size (.slice (some ⟨g, 0, none⟩) n cap) m xs) {p : Addr} (hne : g ≠ p.block) (u : Value) : (w.setCell p u).ownsRow B e size (.slice (some ⟨g, 0, none⟩) n cap) m xs :=
  h.kept (row := some p.block) ⟨rfl, rfl, rfl, by simp, fun k _ hk => heap_setCell_other w p k u (fun e => hk (by rw [e]))⟩ (.inr (by simpa [Value.ownBlock] using hne))
theorem cell_other {w : World} {p q : Addr} (u : Value) (hne : q.block ≠ p.block) : (w.setCell p u).cell? q = w.cell? q := by
  unfold World.cell?
  rw [heap_setCell_other w p q.block u hne]

set_option maxHeartbeats 3200000 in
set_option maxRecDepth 100000 in
theorem specReadVisit_four (s : ByteArray) (a b c d : List UInt8) (w : World) (hs : s.size ≤ 1048576) (hab : splitC 32 s.data.toList = [a, b, c, d]) :
    Calls Tryd.prog 30 #[.string s] w fun e w' => e = .returned (visitRV (fVisit s.data.toList)) ∧ Below w.heap.size w w' := by
  have hl3 := lenL s
  have hl4 := (split_four hab).1
  have hl5 := congrArg List.length hl4
  rw [List.length_append, List.length_cons, List.length_append, List.length_cons, List.length_append, List.length_cons] at hl5
  have za : (tB a).size ≤ 1048576 := by have h5 := lenL (tB a); rw [data_tB] at h5; omega
  have zb : (tB b).size ≤ 1048576 := by have h5 := lenL (tB b); rw [data_tB] at h5; omega
  have zd : (tB d).size ≤ 1048576 := by have h5 := lenL (tB d); rw [data_tB] at h5; omega
  clear hl3 hl4 hl5
  have hN := fVisit_gen hab
  have HAB := hid hab
  clear hab
  obtain ⟨n1, hn1⟩ : ∃ n, n = (numO a).getD 0 := ⟨_, rfl⟩
  obtain ⟨n2, hn2⟩ : ∃ n, n = (numO d).getD 0 := ⟨_, rfl⟩
  obtain ⟨b1, hb1⟩ : ∃ n, n = (numO a).isSome := ⟨_, rfl⟩
  obtain ⟨b2, hb2⟩ : ∃ n, n = (numO d).isSome := ⟨_, rfl⟩
  have g1 : (Ending.returned (.tuple #[.int .i64 n1, .bool b1])) = .returned (.tuple #[.int .i64 ((numO a).getD 0), .bool (numO a).isSome]) := by rw [hn1, hb1]
  have g2 : (Ending.returned (.tuple #[.int .i64 n2, .bool b2])) = .returned (.tuple #[.int .i64 ((numO d).getD 0), .bool (numO d).isSome]) := by rw [hn2, hb2]
  rw [← hn1, ← hn2, ← hb1, ← hb2] at hN
  have HN := hid hN
  clear hN hn1 hn2 hb1 hb2
  have HO := hid (World.ownsRow_lit (e := 55) (size := 4) w #[.int .i64 0, .string ⟨#[]⟩, .int .i64 0, .int .i64 0] 1 (Nat.le_refl _) (by unfold maxLen; omega) rfl)
  have HB := hid (below_alloc w (.cells #[.int .i64 0, .string ⟨#[]⟩, .int .i64 0, .int .i64 0] 55))
  go_enter Tryd.func30, Tryd.ntmps30
  go_wp2_with fail
  refine (l01Split_ok s 32 _ hs).mono ?_
  rintro e w1 ⟨hp, hb⟩
  rw [HAB.out] at hp
  obtain ⟨A1, c1, rfl, hS⟩ := hp
  obtain ⟨bk, o, rfl, hlt, hc⟩ := hS (by simp)
  have p0 : w1.cell? ⟨bk, o, none⟩ = some (.string (tB a)) := hc 0 a rfl
  have p1 : w1.cell? ⟨bk, o + 1, none⟩ = some (.string (tB b)) := hc 1 b rfl
  have p2 : w1.cell? ⟨bk, o + 2, none⟩ = some (.string (tB c)) := hc 2 c rfl
  have p3 : w1.cell? ⟨bk, o + 3, none⟩ = some (.string (tB d)) := hc 3 d rfl
  have e2 : [a, b, c, d].length = 4 := rfl
  have HO := hid (own_below HO.out hb)
  have HB := hid (below_trans HB.out hb)
  clear hS hb hc
  go_wp2_with fail
  refine (l01Number_ok (tB a) _ za).mono ?_
  rintro e w' ⟨he, rfl⟩
  obtain rfl : e = .returned (.tuple #[.int .i64 n1, .bool b1]) := he.trans g1.symm
  clear he
  go_wp2_with fail
  refine (l01Number_ok (tB d) _ zd).mono ?_
  rintro e w' ⟨he, rfl⟩
  obtain rfl : e = .returned (.tuple #[.int .i64 n2, .bool b2]) := he.trans g2.symm
  clear he
  clear g1 g2 p0 p3
  have HO1 := HO
  have HX := hid (World.ownsRow_lit (base := w.heap.size) (e := 55) (size := 4) w1 #[.int .i64 n1, .string (tB b), .int .i64 0, .int .i64 n2] 1 HB.out.size (by unfold maxLen; omega) rfl)
  have HO := hid (HO.out.alloc (.cells #[.int .i64 n1, .string (tB b), .int .i64 0, .int .i64 n2] 55))
  have hX3 : w.heap.size < w1.heap.size := (HO1.out.lt _ rfl).2
  have hX : w.heap.size ≠ w1.heap.size := Nat.ne_of_lt hX3
  have HB := hid (HB.out.alloc HB.out.size (.cells #[.int .i64 n1, .string (tB b), .int .i64 0, .int .i64 n2] 55))
  have p2 := cell?_alloc_old (.cells #[.int .i64 n1, .string (tB b), .int .i64 0, .int .i64 n2] 55) p2
  go_wp2_with fail
  go_loopw [10] (fun i wr => ∃ m : Nat, 1 ≤ m ∧ m ≤ 5 ∧ i = .int .i64 (m : Int) ∧ wr.ownsRow w.heap.size 55 4 (.slice (some ⟨w.heap.size, 0, none⟩) 1 1) 1 [.int .i64 0, .string ⟨#[]⟩, .int .i64 0, .int .i64 0] ∧ wr.ownsRow w.heap.size 55 4 (.slice (some ⟨w1.heap.size, 0, none⟩) 1 1) 1 [.int .i64 n1, .string (tB b), .int .i64 (kdN c m), .int .i64 n2] ∧ Below w.heap.size w wr ∧ wr.cell? ⟨bk, o + 2, none⟩ = some (.string (tB c))) (fun i _ => 5 - (intOf i).toNat)
  case atStart => exact ⟨1, Nat.le_refl _, by omega, rfl, HO.out, by rw [kdN_one]; exact HX.out, HB.out, p2⟩
  case round =>
    clear HO HB HX p2
    obtain ⟨m, hm1, hm5, rfl, ho, hx, hbel, p2⟩ := hrel
    have HO := hid ho
    have HB := hid hbel
    have HX := hid hx
    have hX2 : w1.heap.size < wr.heap.size := (hx.lt _ rfl).2
    have hbw : bk < wr.heap.size := Nat.lt_trans hlt hX2
    clear ho hbel hx
    by_cases hm : m < 5
    · have q0 : (0 : Int) ≤ (m : Int) := by omega
      have q1 : (m : Int) ≤ 4 := by omega
      have q2 : (m : Int) < 5 := by omega
      by_cases hk : (kindT (m : Int)).data.toList = c
      · have d1 : ((kindT (m : Int)).toList == (tB c).toList) = true := by rw [toList_tB, Lib.toList_data, hk, beq_iff_eq]
        have HK := hid (kdN_yes hm1 hk)
        clear hk
        go_wp2_with fail
        refine wp_region_held_drew (S := (fun w' => (True ∧ Below wr.heap.size wr w') ∧ w'.cell? ⟨bk, o + 2, none⟩ = some (.string (tB c)))) (by kernel_rfl) ⟨⟨trivial, (Below.refl _ _).drew⟩, p2⟩ (fun hHeld => ?_)
        refine wpAnyH_take (i := 1) (oi := ⟨some 42, _, _, _, _, _⟩) (v := ?_) rfl (by kernel_rfl) (by kernel_rfl) (by kernel_rfl) (fun _ _ _ h => h) (Or.inl ⟨by rfl, ?_⟩) (by assumption) ?_
        rotate_left
        · (intro w hSw; (try dsimp only at hSw); go_simp; try with_reducible rfl)
        try simp only [Act.put, List.setIfInBounds_toArray, List.set_cons_zero, List.set_cons_succ]
        refine wpAnyH_take (i := 4) (oi := ⟨some 45, _, _, _, _, _⟩) (v := ?_) rfl (by kernel_rfl) (by kernel_rfl) (by kernel_rfl) (fun _ _ _ h => h) (Or.inl ⟨by rfl, ?_⟩) (by assumption) ?_
        rotate_left
        · (intro w hSw; (try dsimp only at hSw); go_simp; try with_reducible rfl)
        try simp only [Act.put, List.setIfInBounds_toArray, List.set_cons_zero, List.set_cons_succ]
        refine wpAnyH_take (i := 5) (oi := ⟨some 46, _, _, _, _, _⟩) (v := ?_) rfl (by kernel_rfl) (by kernel_rfl) (by kernel_rfl) (fun _ _ _ h => h) (Or.inl ⟨by rfl, ?_⟩) (by assumption) ?_
        rotate_left
        · (intro w hSw; (try dsimp only at hSw); go_simp; try with_reducible rfl)
        try simp only [Act.put, List.setIfInBounds_toArray, List.set_cons_zero, List.set_cons_succ]
        refine wpAnyH_take (i := 6) (oi := ⟨some 47, _, _, _, _, _⟩) (v := ?_) rfl (by kernel_rfl) (by kernel_rfl) (by kernel_rfl) (fun _ _ _ h => h) (Or.inl ⟨by rfl, ?_⟩) (by assumption) ?_
        rotate_left
        · (intro w hSw; (try dsimp only at hSw); go_simp; try with_reducible rfl)
        try simp only [Act.put, List.setIfInBounds_toArray, List.set_cons_zero, List.set_cons_succ]
        refine wpAnyH_ready (rs := [0]) (by kernel_rfl) (by simp) ?_
        refine AllReadyH.cons (o := ⟨some 41, _, _, _, _, _⟩) rfl (fun K hK => ?_) AllReadyH.nil
        go_simp
        go_at_call 80; refine (l22Names_ok _).mono ?_; rintro e w4 ⟨rfl, hg, hb4, hnm⟩
        (try go_wp2_with fail)
        refine hK.out _ _ (keepM1 hbw ‹_ ∧ _› hb4) (fun hHeld => ?_)
        clear hK K
        have hn4 : w4.cell? ⟨wr.heap.size, m, none⟩ = some (.string (kindT (m : Int))) := hnm m (by omega)
        clear hnm
        try simp only [Act.put, List.setIfInBounds_toArray, List.set_cons_zero, List.set_cons_succ]
        refine wpAnyH_take (i := 2) (oi := ⟨some 43, _, _, _, _, _⟩) (v := ?_) rfl (by kernel_rfl) (by kernel_rfl) (by kernel_rfl) (fun _ _ _ h => h) (Or.inl ⟨by rfl, ?_⟩) (by assumption) ?_
        rotate_left
        · (intro w hSw; (try dsimp only at hSw); go_simp; try with_reducible rfl)
        try simp only [Act.put, List.setIfInBounds_toArray, List.set_cons_zero, List.set_cons_succ]
        refine wpAnyH_ready (rs := [3]) (by kernel_rfl) (by simp) ?_
        refine AllReadyH.cons (o := ⟨some 44, _, _, _, _, _⟩) rfl (fun K hK => ?_) AllReadyH.nil
        go_simp
        skip
        (try go_wp2_with fail)
        refine hK.out _ _ (by assumption) (fun hHeld => ?_)
        clear hK K
        try simp only [Act.put, List.setIfInBounds_toArray, List.set_cons_zero, List.set_cons_succ]
        refine wpAnyH_take (i := 7) (oi := ⟨some 48, _, _, _, _, _⟩) (v := ?_) rfl (by kernel_rfl) (by kernel_rfl) (by kernel_rfl) (fun _ _ _ h => h) (Or.inl ⟨by rfl, ?_⟩) (by assumption) ?_
        rotate_left
        · (intro w hSw; (try dsimp only at hSw); go_simp; try with_reducible rfl)
        try simp only [Act.put, List.setIfInBounds_toArray, List.set_cons_zero, List.set_cons_succ]
        refine wpAnyH_done (by kernel_rfl) ?_ _
        obtain ⟨⟨-, hB⟩, p7⟩ := ‹(True ∧ Below wr.heap.size wr _) ∧ _›
        have HO := hid (own_below HO.out hB)
        have HX := hid (own_below HX.out hB)
        have HB := hid (below_trans HB.out hB)
        have ox := HX.out.cellAt 2 (by omega)
        have fx := HX.out.frozenAt 2
        simp only [List.getElem?_cons_zero, List.getElem?_cons_succ] at ox
        go_wp2_with fail
        have HX7 := hid (own_setCells [.int .i64 (m : Int)] (p := 2) HX.out)
        simp only [setSeg, setCells, List.set_cons_zero, List.set_cons_succ] at HX7
        go_roundw
        case rel => exact ⟨m + 1, by omega, by omega, by go_num, own_other HO.out hX _, by rw [HK.out]; exact HX7.out, HB.out.setCell (p := ⟨w1.heap.size, 2, none⟩) (Nat.le_of_lt hX3) _, (cell_other _ (Nat.ne_of_lt hlt)).trans p7⟩
        case measure => simp [intOf]; omega
      · have d1 : ((kindT (m : Int)).toList == (tB c).toList) = false := bytes_ne (by rw [data_tB]; exact hk)
        have HK := hid (kdN_no hk)
        clear hk
        go_wp2_with fail
        refine wp_region_held_drew (S := (fun w' => (True ∧ Below wr.heap.size wr w') ∧ w'.cell? ⟨bk, o + 2, none⟩ = some (.string (tB c)))) (by kernel_rfl) ⟨⟨trivial, (Below.refl _ _).drew⟩, p2⟩ (fun hHeld => ?_)
        refine wpAnyH_take (i := 1) (oi := ⟨some 42, _, _, _, _, _⟩) (v := ?_) rfl (by kernel_rfl) (by kernel_rfl) (by kernel_rfl) (fun _ _ _ h => h) (Or.inl ⟨by rfl, ?_⟩) (by assumption) ?_
        rotate_left
        · (intro w hSw; (try dsimp only at hSw); go_simp; try with_reducible rfl)
        try simp only [Act.put, List.setIfInBounds_toArray, List.set_cons_zero, List.set_cons_succ]
        refine wpAnyH_take (i := 4) (oi := ⟨some 45, _, _, _, _, _⟩) (v := ?_) rfl (by kernel_rfl) (by kernel_rfl) (by kernel_rfl) (fun _ _ _ h => h) (Or.inl ⟨by rfl, ?_⟩) (by assumption) ?_
        rotate_left
        · (intro w hSw; (try dsimp only at hSw); go_simp; try with_reducible rfl)
        try simp only [Act.put, List.setIfInBounds_toArray, List.set_cons_zero, List.set_cons_succ]
        refine wpAnyH_take (i := 5) (oi := ⟨some 46, _, _, _, _, _⟩) (v := ?_) rfl (by kernel_rfl) (by kernel_rfl) (by kernel_rfl) (fun _ _ _ h => h) (Or.inl ⟨by rfl, ?_⟩) (by assumption) ?_
        rotate_left
        · (intro w hSw; (try dsimp only at hSw); go_simp; try with_reducible rfl)
        try simp only [Act.put, List.setIfInBounds_toArray, List.set_cons_zero, List.set_cons_succ]
        refine wpAnyH_take (i := 6) (oi := ⟨some 47, _, _, _, _, _⟩) (v := ?_) rfl (by kernel_rfl) (by kernel_rfl) (by kernel_rfl) (fun _ _ _ h => h) (Or.inl ⟨by rfl, ?_⟩) (by assumption) ?_
        rotate_left
        · (intro w hSw; (try dsimp only at hSw); go_simp; try with_reducible rfl)
        try simp only [Act.put, List.setIfInBounds_toArray, List.set_cons_zero, List.set_cons_succ]
        refine wpAnyH_ready (rs := [0]) (by kernel_rfl) (by simp) ?_
        refine AllReadyH.cons (o := ⟨some 41, _, _, _, _, _⟩) rfl (fun K hK => ?_) AllReadyH.nil
        go_simp
        go_at_call 80; refine (l22Names_ok _).mono ?_; rintro e w4 ⟨rfl, hg, hb4, hnm⟩
        (try go_wp2_with fail)
        refine hK.out _ _ (keepM1 hbw ‹_ ∧ _› hb4) (fun hHeld => ?_)
        clear hK K
        have hn4 : w4.cell? ⟨wr.heap.size, m, none⟩ = some (.string (kindT (m : Int))) := hnm m (by omega)
        clear hnm
        try simp only [Act.put, List.setIfInBounds_toArray, List.set_cons_zero, List.set_cons_succ]
        refine wpAnyH_take (i := 2) (oi := ⟨some 43, _, _, _, _, _⟩) (v := ?_) rfl (by kernel_rfl) (by kernel_rfl) (by kernel_rfl) (fun _ _ _ h => h) (Or.inl ⟨by rfl, ?_⟩) (by assumption) ?_
        rotate_left
        · (intro w hSw; (try dsimp only at hSw); go_simp; try with_reducible rfl)
        try simp only [Act.put, List.setIfInBounds_toArray, List.set_cons_zero, List.set_cons_succ]
        refine wpAnyH_ready (rs := [3]) (by kernel_rfl) (by simp) ?_
        refine AllReadyH.cons (o := ⟨some 44, _, _, _, _, _⟩) rfl (fun K hK => ?_) AllReadyH.nil
        go_simp
        skip
        (try go_wp2_with fail)
        refine hK.out _ _ (by assumption) (fun hHeld => ?_)
        clear hK K
        try simp only [Act.put, List.setIfInBounds_toArray, List.set_cons_zero, List.set_cons_succ]
        refine wpAnyH_take (i := 7) (oi := ⟨some 48, _, _, _, _, _⟩) (v := ?_) rfl (by kernel_rfl) (by kernel_rfl) (by kernel_rfl) (fun _ _ _ h => h) (Or.inl ⟨by rfl, ?_⟩) (by assumption) ?_
        rotate_left
        · (intro w hSw; (try dsimp only at hSw); go_simp; try with_reducible rfl)
        try simp only [Act.put, List.setIfInBounds_toArray, List.set_cons_zero, List.set_cons_succ]
        refine wpAnyH_done (by kernel_rfl) ?_ _
        obtain ⟨⟨-, hB⟩, p7⟩ := ‹(True ∧ Below wr.heap.size wr _) ∧ _›
        have HO := hid (own_below HO.out hB)
        have HX := hid (own_below HX.out hB)
        have HB := hid (below_trans HB.out hB)
        go_wp2_with fail
        go_roundw
        case rel => exact ⟨m + 1, by omega, by omega, by go_num, HO.out, by rw [HK.out]; exact HX.out, HB.out, p7⟩
        case measure => simp [intOf]; omega
    · have hm2 : m = 5 := by omega
      subst hm2
      rw [kdN_all] at HX
      have hx0 := HX.out.cellAt 0 (by omega)
      have hx1 := HX.out.cellAt 1 (by omega)
      have hx2 := HX.out.cellAt 2 (by omega)
      have hx3 := HX.out.cellAt 3 (by omega)
      simp only [List.getElem?_cons_zero, List.getElem?_cons_succ] at hx0 hx1 hx2 hx3
      cases b1
      · have HN := hid (show fVisit s.data.toList = none by rw [HN.out]; rfl)
        have old0 := HO.out.cellAt 0 (by omega)
        have old1 := HO.out.cellAt 1 (by omega)
        have old2 := HO.out.cellAt 2 (by omega)
        have old3 := HO.out.cellAt 3 (by omega)
        have fr0 := HO.out.frozenAt 0
        have fr1 := HO.out.frozenAt 1
        have fr2 := HO.out.frozenAt 2
        have fr3 := HO.out.frozenAt 3
        simp only [List.getElem?_cons_zero, List.getElem?_cons_succ] at old0 old1 old2 old3
        go_wp2_with fail
        have RO := hid (own_setCells [.int .i64 0, .string ⟨#[]⟩, .int .i64 0, .int .i64 0] (p := 0) HO.out)
        have z0 := RO.out.cellAt 0 (by omega)
        have z1 := RO.out.cellAt 1 (by omega)
        have z2 := RO.out.cellAt 2 (by omega)
        have z3 := RO.out.cellAt 3 (by omega)
        simp only [setSeg, setCells, Nat.zero_add, List.set_cons_zero, List.set_cons_succ, List.getElem?_cons_zero, List.getElem?_cons_succ] at z0 z1 z2 z3
        exact bodyPost_ret (v := .tuple #[.agg #[.int .i64 0, .string ⟨#[]⟩, .int .i64 0, .int .i64 0], .bool false]) (by simp [results, Tryd.results30, go_sem, z0, z1, z2, z3]) rfl ⟨by rw [HN.out]; rfl, (((((HB.out).setCell (p := ⟨w.heap.size, 0, none⟩) (Nat.le_refl _) _).setCell (p := ⟨w.heap.size, 1, none⟩) (Nat.le_refl _) _).setCell (p := ⟨w.heap.size, 2, none⟩) (Nat.le_refl _) _).setCell (p := ⟨w.heap.size, 3, none⟩) (Nat.le_refl _) _)⟩
      cases b2
      · have HN := hid (show fVisit s.data.toList = none by rw [HN.out]; rfl)
        have old0 := HO.out.cellAt 0 (by omega)
        have old1 := HO.out.cellAt 1 (by omega)
        have old2 := HO.out.cellAt 2 (by omega)
        have old3 := HO.out.cellAt 3 (by omega)
        have fr0 := HO.out.frozenAt 0
        have fr1 := HO.out.frozenAt 1
        have fr2 := HO.out.frozenAt 2
        have fr3 := HO.out.frozenAt 3
        simp only [List.getElem?_cons_zero, List.getElem?_cons_succ] at old0 old1 old2 old3
        go_wp2_with fail
        have RO := hid (own_setCells [.int .i64 0, .string ⟨#[]⟩, .int .i64 0, .int .i64 0] (p := 0) HO.out)
        have z0 := RO.out.cellAt 0 (by omega)
        have z1 := RO.out.cellAt 1 (by omega)
        have z2 := RO.out.cellAt 2 (by omega)
        have z3 := RO.out.cellAt 3 (by omega)
        simp only [setSeg, setCells, Nat.zero_add, List.set_cons_zero, List.set_cons_succ, List.getElem?_cons_zero, List.getElem?_cons_succ] at z0 z1 z2 z3
        exact bodyPost_ret (v := .tuple #[.agg #[.int .i64 0, .string ⟨#[]⟩, .int .i64 0, .int .i64 0], .bool false]) (by simp [results, Tryd.results30, go_sem, z0, z1, z2, z3]) rfl ⟨by rw [HN.out]; rfl, (((((HB.out).setCell (p := ⟨w.heap.size, 0, none⟩) (Nat.le_refl _) _).setCell (p := ⟨w.heap.size, 1, none⟩) (Nat.le_refl _) _).setCell (p := ⟨w.heap.size, 2, none⟩) (Nat.le_refl _) _).setCell (p := ⟨w.heap.size, 3, none⟩) (Nat.le_refl _) _)⟩
      cases hv : visitB n1 (tB b) (kindOf c) n2
      · have HN := hid (show fVisit s.data.toList = none by rw [HN.out, hv]; rfl)
        go_wp2_with fail
        refine (visitOne_ok n1 (tB b) (kindOf c) n2 _ _ _ (by unfold maxLen; omega) hx0 hx1 hx2 hx3).mono ?_
        rintro e w' ⟨he, hb⟩
        obtain rfl : e = .returned (.bool false) := he.trans (by rw [hv])
        have HO := hid (own_below HO.out hb)
        have HB := hid (below_trans HB.out hb)
        clear he hb
        have old0 := HO.out.cellAt 0 (by omega)
        have old1 := HO.out.cellAt 1 (by omega)
        have old2 := HO.out.cellAt 2 (by omega)
        have old3 := HO.out.cellAt 3 (by omega)
        have fr0 := HO.out.frozenAt 0
        have fr1 := HO.out.frozenAt 1
        have fr2 := HO.out.frozenAt 2
        have fr3 := HO.out.frozenAt 3
        simp only [List.getElem?_cons_zero, List.getElem?_cons_succ] at old0 old1 old2 old3
        go_wp2_with fail
        have RO := hid (own_setCells [.int .i64 0, .string ⟨#[]⟩, .int .i64 0, .int .i64 0] (p := 0) HO.out)
        have z0 := RO.out.cellAt 0 (by omega)
        have z1 := RO.out.cellAt 1 (by omega)
        have z2 := RO.out.cellAt 2 (by omega)
        have z3 := RO.out.cellAt 3 (by omega)
        simp only [setSeg, setCells, Nat.zero_add, List.set_cons_zero, List.set_cons_succ, List.getElem?_cons_zero, List.getElem?_cons_succ] at z0 z1 z2 z3
        exact bodyPost_ret (v := .tuple #[.agg #[.int .i64 0, .string ⟨#[]⟩, .int .i64 0, .int .i64 0], .bool false]) (by simp [results, Tryd.results30, go_sem, z0, z1, z2, z3]) rfl ⟨by rw [HN.out]; rfl, (((((HB.out).setCell (p := ⟨w.heap.size, 0, none⟩) (Nat.le_refl _) _).setCell (p := ⟨w.heap.size, 1, none⟩) (Nat.le_refl _) _).setCell (p := ⟨w.heap.size, 2, none⟩) (Nat.le_refl _) _).setCell (p := ⟨w.heap.size, 3, none⟩) (Nat.le_refl _) _)⟩
      · have HN := hid (show fVisit s.data.toList = some (n1, tB b, kindOf c, n2) by rw [HN.out, hv]; rfl)
        go_wp2_with fail
        refine (visitOne_ok n1 (tB b) (kindOf c) n2 _ _ _ (by unfold maxLen; omega) hx0 hx1 hx2 hx3).mono ?_
        rintro e w' ⟨he, hb⟩
        obtain rfl : e = .returned (.bool true) := he.trans (by rw [hv])
        have HO := hid (own_below HO.out hb)
        have HX := hid (own_below HX.out hb)
        have HB := hid (below_trans HB.out hb)
        clear he hb hx0 hx1 hx2 hx3
        have hx0 := HX.out.cellAt 0 (by omega)
        have hx1 := HX.out.cellAt 1 (by omega)
        have hx2 := HX.out.cellAt 2 (by omega)
        have hx3 := HX.out.cellAt 3 (by omega)
        simp only [List.getElem?_cons_zero, List.getElem?_cons_succ] at hx0 hx1 hx2 hx3
        have old0 := HO.out.cellAt 0 (by omega)
        have old1 := HO.out.cellAt 1 (by omega)
        have old2 := HO.out.cellAt 2 (by omega)
        have old3 := HO.out.cellAt 3 (by omega)
        have fr0 := HO.out.frozenAt 0
        have fr1 := HO.out.frozenAt 1
        have fr2 := HO.out.frozenAt 2
        have fr3 := HO.out.frozenAt 3
        simp only [List.getElem?_cons_zero, List.getElem?_cons_succ] at old0 old1 old2 old3
        go_wp2_with fail
        have RO := hid (own_setCells [.int .i64 n1, .string (tB b), .int .i64 (kindOf c), .int .i64 n2] (p := 0) HO.out)
        have z0 := RO.out.cellAt 0 (by omega)
        have z1 := RO.out.cellAt 1 (by omega)
        have z2 := RO.out.cellAt 2 (by omega)
        have z3 := RO.out.cellAt 3 (by omega)
        simp only [setSeg, setCells, Nat.zero_add, List.set_cons_zero, List.set_cons_succ, List.getElem?_cons_zero, List.getElem?_cons_succ] at z0 z1 z2 z3
        exact bodyPost_ret (v := .tuple #[.agg #[.int .i64 n1, .string (tB b), .int .i64 (kindOf c), .int .i64 n2], .bool true]) (by simp [results, Tryd.results30, go_sem, z0, z1, z2, z3]) rfl ⟨by rw [HN.out]; rfl, (((((HB.out).setCell (p := ⟨w.heap.size, 0, none⟩) (Nat.le_refl _) _).setCell (p := ⟨w.heap.size, 1, none⟩) (Nat.le_refl _) _).setCell (p := ⟨w.heap.size, 2, none⟩) (Nat.le_refl _) _).setCell (p := ⟨w.heap.size, 3, none⟩) (Nat.le_refl _) _)⟩

set_option maxHeartbeats 400000 in
set_option maxRecDepth 100000 in
theorem specReadVisit_ok (s : ByteArray) (w : World) (hs : s.size ≤ 1048576) :
    Calls Tryd.prog 30 #[.string s] w fun e w' => e = .returned (visitRV (fVisit s.data.toList)) ∧ Below w.heap.size w w' := by
  by_cases h1 : (splitC 32 s.data.toList).length = 4
  · obtain ⟨a, b, c, d, hab⟩ := len_four h1
    exact specReadVisit_four s a b c d w hs hab
  · have HN := hid (fVisit_len1 h1)
    have d1 : (((splitC 32 s.data.toList).length : Int) == 4) = false := by rw [beq_eq_false_iff_ne]; omega
    have HO := hid (World.ownsRow_lit (e := 55) (size := 4) w #[.int .i64 0, .string ⟨#[]⟩, .int .i64 0, .int .i64 0] 1 (Nat.le_refl _) (by unfold maxLen; omega) rfl)
    have HB := hid (below_alloc w (.cells #[.int .i64 0, .string ⟨#[]⟩, .int .i64 0, .int .i64 0] 55))
    go_enter Tryd.func30, Tryd.ntmps30
    go_wp2_with fail
    refine (l01Split_ok s 32 _ hs).mono ?_
    rintro e w1 ⟨⟨A1, c1, rfl, hS⟩, hb⟩
    have HO := hid (own_below HO.out hb)
    have HB := hid (below_trans HB.out hb)
    clear hS hb
    have old0 := HO.out.cellAt 0 (by omega)
    have old1 := HO.out.cellAt 1 (by omega)
    have old2 := HO.out.cellAt 2 (by omega)
    have old3 := HO.out.cellAt 3 (by omega)
    have fr0 := HO.out.frozenAt 0
    have fr1 := HO.out.frozenAt 1
    have fr2 := HO.out.frozenAt 2
    have fr3 := HO.out.frozenAt 3
    simp only [List.getElem?_cons_zero, List.getElem?_cons_succ] at old0 old1 old2 old3
    go_wp2_with fail
    have RO := hid (own_setCells [.int .i64 0, .string ⟨#[]⟩, .int .i64 0, .int .i64 0] (p := 0) HO.out)
    have z0 := RO.out.cellAt 0 (by omega)
    have z1 := RO.out.cellAt 1 (by omega)
    have z2 := RO.out.cellAt 2 (by omega)
    have z3 := RO.out.cellAt 3 (by omega)
    simp only [setSeg, setCells, Nat.zero_add, List.set_cons_zero, List.set_cons_succ, List.getElem?_cons_zero, List.getElem?_cons_succ] at z0 z1 z2 z3
    exact bodyPost_ret (v := .tuple #[.agg #[.int .i64 0, .string ⟨#[]⟩, .int .i64 0, .int .i64 0], .bool false]) (by simp [results, Tryd.results30, go_sem, z0, z1, z2, z3]) rfl ⟨by rw [HN.out]; rfl, (((((HB.out).setCell (p := ⟨w.heap.size, 0, none⟩) (Nat.le_refl _) _).setCell (p := ⟨w.heap.size, 1, none⟩) (Nat.le_refl _) _).setCell (p := ⟨w.heap.size, 2, none⟩) (Nat.le_refl _) _).setCell (p := ⟨w.heap.size, 3, none⟩) (Nat.le_refl _) _)⟩
end Go.Proofs.YtmfadjdpbobfhaaDoor
