/- ReadEntry: the reference. -/
import Derived.Test.YtmfadjdpbobfhaaDoorReadEntryM
import Derived.Test.YtmfadjdpbobfhaaDoorReadPartS
namespace Go.Proofs.YtmfadjdpbobfhaaDoor
open Go.RowKit
set_option linter.unusedVariables false

set_option maxHeartbeats 1600000 in
set_option maxRecDepth 100000 in
theorem specReadEntry_two (s : ByteArray) (a b c u v : List UInt8) (w : World) (hs : s.size ≤ 1048576) (hab : splitC 32 s.data.toList = [a, b, c]) (hmt : splitC 45 b = [u, v]) :
    Calls Tryd.prog 27 #[.string s] w fun e w' => e = .returned (entryRV (fEntry s.data.toList)) ∧ Below w.heap.size w w' := by
  have hl3 := lenL s
  have hl4 := (split_three hab).1
  have hl5 := congrArg List.length hl4
  rw [List.length_append, List.length_cons, List.length_append, List.length_cons] at hl5
  have za : (tB a).size ≤ 1048576 := by have h5 := lenL (tB a); rw [data_tB] at h5; omega
  have zb : (tB b).size ≤ 1048576 := by have h5 := lenL (tB b); rw [data_tB] at h5; omega
  have zc : (tB c).size ≤ 1048576 := by have h5 := lenL (tB c); rw [data_tB] at h5; omega
  have hl6 := congrArg List.length (split_two hmt).1
  rw [List.length_append, List.length_cons] at hl6
  have zu : (tB u).size ≤ 1048576 := by have h5 := lenL (tB u); have h7 := lenL (tB b); rw [data_tB] at h5 h7; omega
  have zv : (tB v).size ≤ 1048576 := by have h5 := lenL (tB v); have h7 := lenL (tB b); rw [data_tB] at h5 h7; omega
  have HO := hid (World.ownsRow_lit (e := 50) (size := 4) w #[.int .i64 0, .string ⟨#[]⟩, .string ⟨#[]⟩, .int .i64 0] 1 (Nat.le_refl _) (by unfold maxLen; omega) rfl)
  have HB := hid (below_alloc w (.cells #[.int .i64 0, .string ⟨#[]⟩, .string ⟨#[]⟩, .int .i64 0] 50))
  have HAB := hid hab
  have HMT := hid hmt
  clear hl3 hl4 hl5 hl6
  by_cases hm : numO a = none
  · have HN := hid (fEntry_a1 hab hmt hm)
    obtain ⟨n2, b2, h2⟩ : ∃ n2 b2, (Ending.returned (.tuple #[.int .i64 n2, .bool b2])) = .returned (.tuple #[.int .i64 ((numO c).getD 0), .bool (numO c).isSome]) := ⟨_, _, rfl⟩
    clear hab hmt
    go_enter Tryd.func27, Tryd.ntmps27
    go_wp2_with fail
    refine (l01Split_ok s 32 _ hs).mono ?_
    rintro e w1 ⟨hp, hb⟩
    rw [HAB.out] at hp
    obtain ⟨A1, c1, rfl, hS⟩ := hp
    obtain ⟨bk, o, rfl, hlt, hc⟩ := hS (by simp)
    have p0 : w1.cell? ⟨bk, o, none⟩ = some (.string (tB a)) := hc 0 a rfl
    have p1 : w1.cell? ⟨bk, o + 1, none⟩ = some (.string (tB b)) := hc 1 b rfl
    have p2 : w1.cell? ⟨bk, o + 2, none⟩ = some (.string (tB c)) := hc 2 c rfl
    have e2 : [a, b, c].length = 3 := rfl
    have HO := hid (own_below HO.out hb)
    have HB := hid (below_trans HB.out hb)
    clear hS hb hc
    go_wp2_with fail
    refine (l01Split_ok (tB b) 45 _ zb).mono ?_
    rintro e w2 ⟨hp, hb⟩
    rw [data_tB, HMT.out] at hp
    obtain ⟨A2, c2, rfl, hS⟩ := hp
    obtain ⟨bj, oj, rfl, hlt2, hc⟩ := hS (by simp)
    have r0 : w2.cell? ⟨bj, oj, none⟩ = some (.string (tB u)) := hc 0 u rfl
    have r1 : w2.cell? ⟨bj, oj + 1, none⟩ = some (.string (tB v)) := hc 1 v rfl
    have p0 := (hb.cell (p := ⟨bk, o, none⟩) hlt).trans p0
    have p2 := (hb.cell (p := ⟨bk, o + 2, none⟩) hlt).trans p2
    have e3 : [u, v].length = 2 := rfl
    have HO := hid (own_below HO.out hb)
    have HB := hid (below_trans HB.out hb)
    clear hS hb hc
    go_wp2_with fail
    refine (l01Number_ok (tB a) _ za).mono ?_
    rintro e w' ⟨he, rfl⟩
    obtain rfl : e = .returned (.tuple #[.int .i64 0, .bool false]) := he.trans (num_none hm).symm
    clear he
    go_wp2_with fail
    refine (l01Number_ok (tB c) _ zc).mono ?_
    rintro e w' ⟨he, rfl⟩
    obtain rfl : e = .returned (.tuple #[.int .i64 n2, .bool b2]) := he.trans h2.symm
    clear he
    clear hm h2
    have old0 := HO.out.cellAt 0 (by omega)
    have old1 := HO.out.cellAt 1 (by omega)
    have old2 := HO.out.cellAt 2 (by omega)
    have old3 := HO.out.cellAt 3 (by omega)
    have fr0 := HO.out.frozenAt 0
    have fr1 := HO.out.frozenAt 1
    have fr2 := HO.out.frozenAt 2
    have fr3 := HO.out.frozenAt 3
    simp only [List.getElem?_cons_zero, List.getElem?_cons_succ] at old0 old1 old2 old3
    go_wp2_with fail
    have RO := hid (own_setCells [.int .i64 0, .string ⟨#[]⟩, .string ⟨#[]⟩, .int .i64 0] (p := 0) HO.out)
    have z0 := RO.out.cellAt 0 (by omega)
    have z1 := RO.out.cellAt 1 (by omega)
    have z2 := RO.out.cellAt 2 (by omega)
    have z3 := RO.out.cellAt 3 (by omega)
    simp only [setSeg, setCells, Nat.zero_add, List.set_cons_zero, List.set_cons_succ, List.getElem?_cons_zero, List.getElem?_cons_succ] at z0 z1 z2 z3
    exact bodyPost_ret (v := .tuple #[.agg #[.int .i64 0, .string ⟨#[]⟩, .string ⟨#[]⟩, .int .i64 0], .bool false]) (by simp [results, Tryd.results27, go_sem, z0, z1, z2, z3]) rfl ⟨by rw [HN.out]; rfl, (((((HB.out).setCell (p := ⟨w.heap.size, 0, none⟩) (Nat.le_refl _) _).setCell (p := ⟨w.heap.size, 1, none⟩) (Nat.le_refl _) _).setCell (p := ⟨w.heap.size, 2, none⟩) (Nat.le_refl _) _).setCell (p := ⟨w.heap.size, 3, none⟩) (Nat.le_refl _) _)⟩
  obtain ⟨M, hm⟩ : ∃ M, numO a = some M := Option.ne_none_iff_exists'.1 hm
  by_cases ht : numO c = none
  · have HN := hid (fEntry_a2 hab hmt hm ht)
    clear hab hmt
    go_enter Tryd.func27, Tryd.ntmps27
    go_wp2_with fail
    refine (l01Split_ok s 32 _ hs).mono ?_
    rintro e w1 ⟨hp, hb⟩
    rw [HAB.out] at hp
    obtain ⟨A1, c1, rfl, hS⟩ := hp
    obtain ⟨bk, o, rfl, hlt, hc⟩ := hS (by simp)
    have p0 : w1.cell? ⟨bk, o, none⟩ = some (.string (tB a)) := hc 0 a rfl
    have p1 : w1.cell? ⟨bk, o + 1, none⟩ = some (.string (tB b)) := hc 1 b rfl
    have p2 : w1.cell? ⟨bk, o + 2, none⟩ = some (.string (tB c)) := hc 2 c rfl
    have e2 : [a, b, c].length = 3 := rfl
    have HO := hid (own_below HO.out hb)
    have HB := hid (below_trans HB.out hb)
    clear hS hb hc
    go_wp2_with fail
    refine (l01Split_ok (tB b) 45 _ zb).mono ?_
    rintro e w2 ⟨hp, hb⟩
    rw [data_tB, HMT.out] at hp
    obtain ⟨A2, c2, rfl, hS⟩ := hp
    obtain ⟨bj, oj, rfl, hlt2, hc⟩ := hS (by simp)
    have r0 : w2.cell? ⟨bj, oj, none⟩ = some (.string (tB u)) := hc 0 u rfl
    have r1 : w2.cell? ⟨bj, oj + 1, none⟩ = some (.string (tB v)) := hc 1 v rfl
    have p0 := (hb.cell (p := ⟨bk, o, none⟩) hlt).trans p0
    have p2 := (hb.cell (p := ⟨bk, o + 2, none⟩) hlt).trans p2
    have e3 : [u, v].length = 2 := rfl
    have HO := hid (own_below HO.out hb)
    have HB := hid (below_trans HB.out hb)
    clear hS hb hc
    go_wp2_with fail
    refine (l01Number_ok (tB a) _ za).mono ?_
    rintro e w' ⟨he, rfl⟩
    obtain rfl : e = .returned (.tuple #[.int .i64 M, .bool true]) := he.trans (num_some hm).symm
    clear he
    go_wp2_with fail
    refine (l01Number_ok (tB c) _ zc).mono ?_
    rintro e w' ⟨he, rfl⟩
    obtain rfl : e = .returned (.tuple #[.int .i64 0, .bool false]) := he.trans (num_none ht).symm
    clear he
    clear hm ht
    have old0 := HO.out.cellAt 0 (by omega)
    have old1 := HO.out.cellAt 1 (by omega)
    have old2 := HO.out.cellAt 2 (by omega)
    have old3 := HO.out.cellAt 3 (by omega)
    have fr0 := HO.out.frozenAt 0
    have fr1 := HO.out.frozenAt 1
    have fr2 := HO.out.frozenAt 2
    have fr3 := HO.out.frozenAt 3
    simp only [List.getElem?_cons_zero, List.getElem?_cons_succ] at old0 old1 old2 old3
    go_wp2_with fail
    have RO := hid (own_setCells [.int .i64 0, .string ⟨#[]⟩, .string ⟨#[]⟩, .int .i64 0] (p := 0) HO.out)
    have z0 := RO.out.cellAt 0 (by omega)
    have z1 := RO.out.cellAt 1 (by omega)
    have z2 := RO.out.cellAt 2 (by omega)
    have z3 := RO.out.cellAt 3 (by omega)
    simp only [setSeg, setCells, Nat.zero_add, List.set_cons_zero, List.set_cons_succ, List.getElem?_cons_zero, List.getElem?_cons_succ] at z0 z1 z2 z3
    exact bodyPost_ret (v := .tuple #[.agg #[.int .i64 0, .string ⟨#[]⟩, .string ⟨#[]⟩, .int .i64 0], .bool false]) (by simp [results, Tryd.results27, go_sem, z0, z1, z2, z3]) rfl ⟨by rw [HN.out]; rfl, (((((HB.out).setCell (p := ⟨w.heap.size, 0, none⟩) (Nat.le_refl _) _).setCell (p := ⟨w.heap.size, 1, none⟩) (Nat.le_refl _) _).setCell (p := ⟨w.heap.size, 2, none⟩) (Nat.le_refl _) _).setCell (p := ⟨w.heap.size, 3, none⟩) (Nat.le_refl _) _)⟩
  obtain ⟨A, ht⟩ : ∃ A, numO c = some A := Option.ne_none_iff_exists'.1 ht
  cases hv : entryB M (tB v) (tB u) A
  · have HN := hid (show fEntry s.data.toList = none by rw [fEntry_a3 hab hmt hm ht, if_neg (by rw [hv]; decide)])
    clear hab hmt
    go_enter Tryd.func27, Tryd.ntmps27
    go_wp2_with fail
    refine (l01Split_ok s 32 _ hs).mono ?_
    rintro e w1 ⟨hp, hb⟩
    rw [HAB.out] at hp
    obtain ⟨A1, c1, rfl, hS⟩ := hp
    obtain ⟨bk, o, rfl, hlt, hc⟩ := hS (by simp)
    have p0 : w1.cell? ⟨bk, o, none⟩ = some (.string (tB a)) := hc 0 a rfl
    have p1 : w1.cell? ⟨bk, o + 1, none⟩ = some (.string (tB b)) := hc 1 b rfl
    have p2 : w1.cell? ⟨bk, o + 2, none⟩ = some (.string (tB c)) := hc 2 c rfl
    have e2 : [a, b, c].length = 3 := rfl
    have HO := hid (own_below HO.out hb)
    have HB := hid (below_trans HB.out hb)
    clear hS hb hc
    go_wp2_with fail
    refine (l01Split_ok (tB b) 45 _ zb).mono ?_
    rintro e w2 ⟨hp, hb⟩
    rw [data_tB, HMT.out] at hp
    obtain ⟨A2, c2, rfl, hS⟩ := hp
    obtain ⟨bj, oj, rfl, hlt2, hc⟩ := hS (by simp)
    have r0 : w2.cell? ⟨bj, oj, none⟩ = some (.string (tB u)) := hc 0 u rfl
    have r1 : w2.cell? ⟨bj, oj + 1, none⟩ = some (.string (tB v)) := hc 1 v rfl
    have p0 := (hb.cell (p := ⟨bk, o, none⟩) hlt).trans p0
    have p2 := (hb.cell (p := ⟨bk, o + 2, none⟩) hlt).trans p2
    have e3 : [u, v].length = 2 := rfl
    have HO := hid (own_below HO.out hb)
    have HB := hid (below_trans HB.out hb)
    clear hS hb hc
    go_wp2_with fail
    refine (l01Number_ok (tB a) _ za).mono ?_
    rintro e w' ⟨he, rfl⟩
    obtain rfl : e = .returned (.tuple #[.int .i64 M, .bool true]) := he.trans (num_some hm).symm
    clear he
    go_wp2_with fail
    refine (l01Number_ok (tB c) _ zc).mono ?_
    rintro e w' ⟨he, rfl⟩
    obtain rfl : e = .returned (.tuple #[.int .i64 A, .bool true]) := he.trans (num_some ht).symm
    clear he
    clear hm ht
    go_wp2_with fail
    go_region
    have HX := hid (show HasC (w2.alloc (.cells #[.int .i64 M, .string (tB v), .string (tB u), .int .i64 A] 50)).drew w2.heap.size [.int .i64 M, .string (tB v), .string (tB u), .int .i64 A] from HasC.new w2 [.int .i64 M, .string (tB v), .string (tB u), .int .i64 A] 50)
    have OX := hid (show (w2.alloc (.cells #[.int .i64 M, .string (tB v), .string (tB u), .int .i64 A] 50)).drew.ownsRow w.heap.size 50 4 (.slice (some ⟨w.heap.size, 0, none⟩) 1 1) 1 [.int .i64 0, .string ⟨#[]⟩, .string ⟨#[]⟩, .int .i64 0] from HO.out.alloc (.cells #[.int .i64 M, .string (tB v), .string (tB u), .int .i64 A] 50))
    have BX := hid ((HB.out.alloc HB.out.size (.cells #[.int .i64 M, .string (tB v), .string (tB u), .int .i64 A] 50)).drew)
    have k0 := HX.out.2 0 _ rfl
    have k1 := HX.out.2 1 _ rfl
    have k2 := HX.out.2 2 _ rfl
    have k3 := HX.out.2 3 _ rfl
    go_wp2_with fail
    refine (entryOne_ok M (tB v) (tB u) A _ _ _ (by unfold maxLen; omega) (by unfold maxLen; omega) k0 k1 k2 k3).mono ?_
    rintro e w' ⟨he, hb⟩
    obtain rfl : e = .returned (.bool false) := he.trans (by rw [hv])
    have OY := hid (own_below OX.out hb)
    have BY := hid (below_trans BX.out hb)
    have HY := hid (HX.out.below hb)
    clear he hb k0 k1 k2 k3
    have k0 := HY.out.2 0 _ rfl
    have k1 := HY.out.2 1 _ rfl
    have k2 := HY.out.2 2 _ rfl
    have k3 := HY.out.2 3 _ rfl
    have old0 := OY.out.cellAt 0 (by omega)
    have old1 := OY.out.cellAt 1 (by omega)
    have old2 := OY.out.cellAt 2 (by omega)
    have old3 := OY.out.cellAt 3 (by omega)
    have fr0 := OY.out.frozenAt 0
    have fr1 := OY.out.frozenAt 1
    have fr2 := OY.out.frozenAt 2
    have fr3 := OY.out.frozenAt 3
    simp only [List.getElem?_cons_zero, List.getElem?_cons_succ] at old0 old1 old2 old3
    go_wp2_with fail
    have RO := hid (own_setCells [.int .i64 0, .string ⟨#[]⟩, .string ⟨#[]⟩, .int .i64 0] (p := 0) OY.out)
    have z0 := RO.out.cellAt 0 (by omega)
    have z1 := RO.out.cellAt 1 (by omega)
    have z2 := RO.out.cellAt 2 (by omega)
    have z3 := RO.out.cellAt 3 (by omega)
    simp only [setSeg, setCells, Nat.zero_add, List.set_cons_zero, List.set_cons_succ, List.getElem?_cons_zero, List.getElem?_cons_succ] at z0 z1 z2 z3
    exact bodyPost_ret (v := .tuple #[.agg #[.int .i64 0, .string ⟨#[]⟩, .string ⟨#[]⟩, .int .i64 0], .bool false]) (by simp [results, Tryd.results27, go_sem, z0, z1, z2, z3]) rfl ⟨by rw [HN.out]; rfl, (((((BY.out).setCell (p := ⟨w.heap.size, 0, none⟩) (Nat.le_refl _) _).setCell (p := ⟨w.heap.size, 1, none⟩) (Nat.le_refl _) _).setCell (p := ⟨w.heap.size, 2, none⟩) (Nat.le_refl _) _).setCell (p := ⟨w.heap.size, 3, none⟩) (Nat.le_refl _) _)⟩
  · have HN := hid (show fEntry s.data.toList = some (M, (tB v), (tB u), A) by rw [fEntry_a3 hab hmt hm ht, if_pos hv])
    clear hab hmt
    go_enter Tryd.func27, Tryd.ntmps27
    go_wp2_with fail
    refine (l01Split_ok s 32 _ hs).mono ?_
    rintro e w1 ⟨hp, hb⟩
    rw [HAB.out] at hp
    obtain ⟨A1, c1, rfl, hS⟩ := hp
    obtain ⟨bk, o, rfl, hlt, hc⟩ := hS (by simp)
    have p0 : w1.cell? ⟨bk, o, none⟩ = some (.string (tB a)) := hc 0 a rfl
    have p1 : w1.cell? ⟨bk, o + 1, none⟩ = some (.string (tB b)) := hc 1 b rfl
    have p2 : w1.cell? ⟨bk, o + 2, none⟩ = some (.string (tB c)) := hc 2 c rfl
    have e2 : [a, b, c].length = 3 := rfl
    have HO := hid (own_below HO.out hb)
    have HB := hid (below_trans HB.out hb)
    clear hS hb hc
    go_wp2_with fail
    refine (l01Split_ok (tB b) 45 _ zb).mono ?_
    rintro e w2 ⟨hp, hb⟩
    rw [data_tB, HMT.out] at hp
    obtain ⟨A2, c2, rfl, hS⟩ := hp
    obtain ⟨bj, oj, rfl, hlt2, hc⟩ := hS (by simp)
    have r0 : w2.cell? ⟨bj, oj, none⟩ = some (.string (tB u)) := hc 0 u rfl
    have r1 : w2.cell? ⟨bj, oj + 1, none⟩ = some (.string (tB v)) := hc 1 v rfl
    have p0 := (hb.cell (p := ⟨bk, o, none⟩) hlt).trans p0
    have p2 := (hb.cell (p := ⟨bk, o + 2, none⟩) hlt).trans p2
    have e3 : [u, v].length = 2 := rfl
    have HO := hid (own_below HO.out hb)
    have HB := hid (below_trans HB.out hb)
    clear hS hb hc
    go_wp2_with fail
    refine (l01Number_ok (tB a) _ za).mono ?_
    rintro e w' ⟨he, rfl⟩
    obtain rfl : e = .returned (.tuple #[.int .i64 M, .bool true]) := he.trans (num_some hm).symm
    clear he
    go_wp2_with fail
    refine (l01Number_ok (tB c) _ zc).mono ?_
    rintro e w' ⟨he, rfl⟩
    obtain rfl : e = .returned (.tuple #[.int .i64 A, .bool true]) := he.trans (num_some ht).symm
    clear he
    clear hm ht
    go_wp2_with fail
    go_region
    have HX := hid (show HasC (w2.alloc (.cells #[.int .i64 M, .string (tB v), .string (tB u), .int .i64 A] 50)).drew w2.heap.size [.int .i64 M, .string (tB v), .string (tB u), .int .i64 A] from HasC.new w2 [.int .i64 M, .string (tB v), .string (tB u), .int .i64 A] 50)
    have OX := hid (show (w2.alloc (.cells #[.int .i64 M, .string (tB v), .string (tB u), .int .i64 A] 50)).drew.ownsRow w.heap.size 50 4 (.slice (some ⟨w.heap.size, 0, none⟩) 1 1) 1 [.int .i64 0, .string ⟨#[]⟩, .string ⟨#[]⟩, .int .i64 0] from HO.out.alloc (.cells #[.int .i64 M, .string (tB v), .string (tB u), .int .i64 A] 50))
    have BX := hid ((HB.out.alloc HB.out.size (.cells #[.int .i64 M, .string (tB v), .string (tB u), .int .i64 A] 50)).drew)
    have k0 := HX.out.2 0 _ rfl
    have k1 := HX.out.2 1 _ rfl
    have k2 := HX.out.2 2 _ rfl
    have k3 := HX.out.2 3 _ rfl
    go_wp2_with fail
    refine (entryOne_ok M (tB v) (tB u) A _ _ _ (by unfold maxLen; omega) (by unfold maxLen; omega) k0 k1 k2 k3).mono ?_
    rintro e w' ⟨he, hb⟩
    obtain rfl : e = .returned (.bool true) := he.trans (by rw [hv])
    have OY := hid (own_below OX.out hb)
    have BY := hid (below_trans BX.out hb)
    have HY := hid (HX.out.below hb)
    clear he hb k0 k1 k2 k3
    have k0 := HY.out.2 0 _ rfl
    have k1 := HY.out.2 1 _ rfl
    have k2 := HY.out.2 2 _ rfl
    have k3 := HY.out.2 3 _ rfl
    have old0 := OY.out.cellAt 0 (by omega)
    have old1 := OY.out.cellAt 1 (by omega)
    have old2 := OY.out.cellAt 2 (by omega)
    have old3 := OY.out.cellAt 3 (by omega)
    have fr0 := OY.out.frozenAt 0
    have fr1 := OY.out.frozenAt 1
    have fr2 := OY.out.frozenAt 2
    have fr3 := OY.out.frozenAt 3
    simp only [List.getElem?_cons_zero, List.getElem?_cons_succ] at old0 old1 old2 old3
    go_wp2_with fail
    have RO := hid (own_setCells [.int .i64 M, .string (tB v), .string (tB u), .int .i64 A] (p := 0) OY.out)
    have z0 := RO.out.cellAt 0 (by omega)
    have z1 := RO.out.cellAt 1 (by omega)
    have z2 := RO.out.cellAt 2 (by omega)
    have z3 := RO.out.cellAt 3 (by omega)
    simp only [setSeg, setCells, Nat.zero_add, List.set_cons_zero, List.set_cons_succ, List.getElem?_cons_zero, List.getElem?_cons_succ] at z0 z1 z2 z3
    exact bodyPost_ret (v := .tuple #[.agg #[.int .i64 M, .string (tB v), .string (tB u), .int .i64 A], .bool true]) (by simp [results, Tryd.results27, go_sem, z0, z1, z2, z3]) rfl ⟨by rw [HN.out]; rfl, (((((BY.out).setCell (p := ⟨w.heap.size, 0, none⟩) (Nat.le_refl _) _).setCell (p := ⟨w.heap.size, 1, none⟩) (Nat.le_refl _) _).setCell (p := ⟨w.heap.size, 2, none⟩) (Nat.le_refl _) _).setCell (p := ⟨w.heap.size, 3, none⟩) (Nat.le_refl _) _)⟩

set_option maxHeartbeats 800000 in
set_option maxRecDepth 100000 in
theorem specReadEntry_ok (s : ByteArray) (w : World) (hs : s.size ≤ 1048576) :
    Calls Tryd.prog 27 #[.string s] w fun e w' => e = .returned (entryRV (fEntry s.data.toList)) ∧ Below w.heap.size w w' := by
  have HO := hid (World.ownsRow_lit (e := 50) (size := 4) w #[.int .i64 0, .string ⟨#[]⟩, .string ⟨#[]⟩, .int .i64 0] 1 (Nat.le_refl _) (by unfold maxLen; omega) rfl)
  have HB := hid (below_alloc w (.cells #[.int .i64 0, .string ⟨#[]⟩, .string ⟨#[]⟩, .int .i64 0] 50))
  by_cases h1 : (splitC 32 s.data.toList).length = 3
  · obtain ⟨a, b, c, hab⟩ := len_three h1
    have HAB := hid hab
    clear h1
    by_cases h2 : (splitC 45 b).length = 2
    · obtain ⟨u, v, hmt⟩ := len_two h2
      clear h2
      exact specReadEntry_two s a b c u v w hs HAB.out hmt
    have HN := hid (fEntry_len2 hab h2)
    have d1 : (splitC 45 (tB b).data.toList).length ≠ 2 := h2
    have hl3 := lenL s
    have hl4 := (split_three hab).1
    have hl5 := congrArg List.length hl4
    rw [List.length_append, List.length_cons, List.length_append, List.length_cons] at hl5
    have za : (tB a).size ≤ 1048576 := by have h5 := lenL (tB a); rw [data_tB] at h5; omega
    have zb : (tB b).size ≤ 1048576 := by have h5 := lenL (tB b); rw [data_tB] at h5; omega
    have zc : (tB c).size ≤ 1048576 := by have h5 := lenL (tB c); rw [data_tB] at h5; omega
    clear hl3 hl4 hl5 hab
    obtain ⟨n1, b1, g1⟩ : ∃ n1 b1, (Ending.returned (.tuple #[.int .i64 n1, .bool b1])) = .returned (.tuple #[.int .i64 ((numO a).getD 0), .bool (numO a).isSome]) := ⟨_, _, rfl⟩
    obtain ⟨n2, b2, g2⟩ : ∃ n2 b2, (Ending.returned (.tuple #[.int .i64 n2, .bool b2])) = .returned (.tuple #[.int .i64 ((numO c).getD 0), .bool (numO c).isSome]) := ⟨_, _, rfl⟩
    go_enter Tryd.func27, Tryd.ntmps27
    go_wp2_with fail
    refine (l01Split_ok s 32 _ hs).mono ?_
    rintro e w1 ⟨hp, hb⟩
    rw [HAB.out] at hp
    obtain ⟨A1, c1, rfl, hS⟩ := hp
    obtain ⟨bk, o, rfl, hlt, hc⟩ := hS (by simp)
    have p0 : w1.cell? ⟨bk, o, none⟩ = some (.string (tB a)) := hc 0 a rfl
    have p1 : w1.cell? ⟨bk, o + 1, none⟩ = some (.string (tB b)) := hc 1 b rfl
    have p2 : w1.cell? ⟨bk, o + 2, none⟩ = some (.string (tB c)) := hc 2 c rfl
    have e2 : [a, b, c].length = 3 := rfl
    have HO := hid (own_below HO.out hb)
    have HB := hid (below_trans HB.out hb)
    clear hS hb hc
    go_wp2_with fail
    refine (l01Split_ok (tB b) 45 _ zb).mono ?_
    rintro e w2 ⟨⟨A2, c2, rfl, hS⟩, hb⟩
    have p0 := (hb.cell (p := ⟨bk, o, none⟩) hlt).trans p0
    have p2 := (hb.cell (p := ⟨bk, o + 2, none⟩) hlt).trans p2
    have HO := hid (own_below HO.out hb)
    have HB := hid (below_trans HB.out hb)
    clear hS hb
    go_wp2_with fail
    refine (l01Number_ok (tB a) _ za).mono ?_
    rintro e w' ⟨he, rfl⟩
    obtain rfl : e = .returned (.tuple #[.int .i64 n1, .bool b1]) := he.trans g1.symm
    clear he
    go_wp2_with fail
    refine (l01Number_ok (tB c) _ zc).mono ?_
    rintro e w' ⟨he, rfl⟩
    obtain rfl : e = .returned (.tuple #[.int .i64 n2, .bool b2]) := he.trans g2.symm
    clear he
    clear g1 g2
    have old0 := HO.out.cellAt 0 (by omega)
    have old1 := HO.out.cellAt 1 (by omega)
    have old2 := HO.out.cellAt 2 (by omega)
    have old3 := HO.out.cellAt 3 (by omega)
    have fr0 := HO.out.frozenAt 0
    have fr1 := HO.out.frozenAt 1
    have fr2 := HO.out.frozenAt 2
    have fr3 := HO.out.frozenAt 3
    simp only [List.getElem?_cons_zero, List.getElem?_cons_succ] at old0 old1 old2 old3
    go_wp2_with fail
    all_goals (try (exfalso; omega))
    have RO := hid (own_setCells [.int .i64 0, .string ⟨#[]⟩, .string ⟨#[]⟩, .int .i64 0] (p := 0) HO.out)
    have z0 := RO.out.cellAt 0 (by omega)
    have z1 := RO.out.cellAt 1 (by omega)
    have z2 := RO.out.cellAt 2 (by omega)
    have z3 := RO.out.cellAt 3 (by omega)
    simp only [setSeg, setCells, Nat.zero_add, List.set_cons_zero, List.set_cons_succ, List.getElem?_cons_zero, List.getElem?_cons_succ] at z0 z1 z2 z3
    exact bodyPost_ret (v := .tuple #[.agg #[.int .i64 0, .string ⟨#[]⟩, .string ⟨#[]⟩, .int .i64 0], .bool false]) (by simp [results, Tryd.results27, go_sem, z0, z1, z2, z3]) rfl ⟨by rw [HN.out]; rfl, (((((HB.out).setCell (p := ⟨w.heap.size, 0, none⟩) (Nat.le_refl _) _).setCell (p := ⟨w.heap.size, 1, none⟩) (Nat.le_refl _) _).setCell (p := ⟨w.heap.size, 2, none⟩) (Nat.le_refl _) _).setCell (p := ⟨w.heap.size, 3, none⟩) (Nat.le_refl _) _)⟩
  · have HN := hid (fEntry_len1 h1)
    have d1 : (((splitC 32 s.data.toList).length : Int) == 3) = false := by rw [beq_eq_false_iff_ne]; omega
    go_enter Tryd.func27, Tryd.ntmps27
    go_wp2_with fail
    refine (l01Split_ok s 32 _ hs).mono ?_
    rintro e w1 ⟨⟨A1, c1, rfl, hS⟩, hb⟩
    have HO := hid (own_below HO.out hb)
    have HB := hid (below_trans HB.out hb)
    clear hS hb
    have old0 := HO.out.cellAt 0 (by omega)
    have old1 := HO.out.cellAt 1 (by omega)
    have old2 := HO.out.cellAt 2 (by omega)
    have old3 := HO.out.cellAt 3 (by omega)
    have fr0 := HO.out.frozenAt 0
    have fr1 := HO.out.frozenAt 1
    have fr2 := HO.out.frozenAt 2
    have fr3 := HO.out.frozenAt 3
    simp only [List.getElem?_cons_zero, List.getElem?_cons_succ] at old0 old1 old2 old3
    go_wp2_with fail
    have RO := hid (own_setCells [.int .i64 0, .string ⟨#[]⟩, .string ⟨#[]⟩, .int .i64 0] (p := 0) HO.out)
    have z0 := RO.out.cellAt 0 (by omega)
    have z1 := RO.out.cellAt 1 (by omega)
    have z2 := RO.out.cellAt 2 (by omega)
    have z3 := RO.out.cellAt 3 (by omega)
    simp only [setSeg, setCells, Nat.zero_add, List.set_cons_zero, List.set_cons_succ, List.getElem?_cons_zero, List.getElem?_cons_succ] at z0 z1 z2 z3
    exact bodyPost_ret (v := .tuple #[.agg #[.int .i64 0, .string ⟨#[]⟩, .string ⟨#[]⟩, .int .i64 0], .bool false]) (by simp [results, Tryd.results27, go_sem, z0, z1, z2, z3]) rfl ⟨by rw [HN.out]; rfl, (((((HB.out).setCell (p := ⟨w.heap.size, 0, none⟩) (Nat.le_refl _) _).setCell (p := ⟨w.heap.size, 1, none⟩) (Nat.le_refl _) _).setCell (p := ⟨w.heap.size, 2, none⟩) (Nat.le_refl _) _).setCell (p := ⟨w.heap.size, 3, none⟩) (Nat.le_refl _) _)⟩
end Go.Proofs.YtmfadjdpbobfhaaDoor
