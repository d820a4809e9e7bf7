/- ReadEntry: the program. -/
import Derived.Test.YtmfadjdpbobfhaaDoorReadEntryM
import Derived.Test.YtmfadjdpbobfhaaDoorWordsI
import Derived.Test.YtmfadjdpbobfhaaDoorReadPartI
namespace Go.Proofs.YtmfadjdpbobfhaaDoor
open Go.RowKit
set_option linter.unusedVariables false

set_option maxHeartbeats 1600000 in
set_option maxRecDepth 100000 in
theorem ReadEntry_three (s : ByteArray) (a b c : List UInt8) (w : World) (hs : s.size ≤ 1048576) (hR : RdW w) (hw : wordsOf s.data.toList = [a, b, c]) :
    Calls Tryd.prog 28 #[.string s] w fun e w' => e = .returned (entryRV (fEntry s.data.toList)) ∧ Below w.heap.size w w' := by
  have za : (tB a).size ≤ 1048576 := by have h3 := lenL s; have h4 := words_size (l := s.data.toList) (p := a) (by rw [hw]; simp); have h5 := lenL (tB a); rw [data_tB] at h5; omega
  have zb : (tB b).size ≤ 1048576 := by have h3 := lenL s; have h4 := words_size (l := s.data.toList) (p := b) (by rw [hw]; simp); have h5 := lenL (tB b); rw [data_tB] at h5; omega
  have zc : (tB c).size ≤ 1048576 := by have h3 := lenL s; have h4 := words_size (l := s.data.toList) (p := c) (by rw [hw]; simp); have h5 := lenL (tB c); rw [data_tB] at h5; omega
  obtain ⟨I, hI⟩ : ∃ I : ByteArray, I = tB (Lib.cut b [45]).1 := ⟨_, rfl⟩
  obtain ⟨J, hJ⟩ : ∃ J : ByteArray, J = tB (Lib.cut b [45]).2.1 := ⟨_, rfl⟩
  obtain ⟨G, hG⟩ : ∃ G : Bool, G = (Lib.cut b [45]).2.2 := ⟨_, rfl⟩
  have l1 := cut_len b 45
  have zI : I.size ≤ 1048576 := by rw [hI, ← lenL, data_tB]; have := lenL (tB b); rw [data_tB] at this; omega
  have zJ : J.size ≤ 1048576 := by rw [hJ, ← lenL, data_tB]; have := lenL (tB b); rw [data_tB] at this; omega
  have HI := hid hI
  have HJ := hid hJ
  have HG := hid hG
  have HW := hid hw
  have HO := hid (World.ownsRow_lit (e := 50) (size := 4) w #[.int .i64 0, .string ⟨#[]⟩, .string ⟨#[]⟩, .int .i64 0] 1 (Nat.le_refl _) (by unfold maxLen; omega) rfl)
  have HB := hid (below_alloc w (.cells #[.int .i64 0, .string ⟨#[]⟩, .string ⟨#[]⟩, .int .i64 0] 50))
  have HR := hid (hR.below HB.out)
  clear hI hJ hG l1 hR hw
  by_cases h1 : numO a = none
  · have HN := hid (fEntry_no1 HW.out h1)
    obtain ⟨n2, b2, h2⟩ : ∃ n2 b2, (Ending.returned (.tuple #[.int .i64 n2, .bool b2])) = .returned (.tuple #[.int .i64 ((numO c).getD 0), .bool (numO c).isSome]) := ⟨_, _, rfl⟩
    go_enter Tryd.func28, Tryd.ntmps28
    go_wp2_with fail
    refine (SplitWords_ok s _ hs HR.out).mono ?_
    rintro e w1 ⟨hp, hb⟩
    rw [HW.out] at hp
    obtain ⟨A1, c1, rfl, hS⟩ := hp
    obtain ⟨bk, o, rfl, hlt, hc⟩ := hS (by simp)
    have p0 : w1.cell? ⟨bk, o, none⟩ = some (.string (tB a)) := hc 0 a rfl
    have p1 : w1.cell? ⟨bk, o + 1, none⟩ = some (.string (tB b)) := hc 1 b rfl
    have p2 : w1.cell? ⟨bk, o + 2, none⟩ = some (.string (tB c)) := hc 2 c rfl
    have e2 : [a, b, c].length = 3 := rfl
    have HR := hid (HR.out.below hb)
    have HO := hid (own_below HO.out hb)
    have HB := hid (below_trans HB.out hb)
    clear hS hb hc
    go_wp2_with fail
    refine (ReadDecimal_ok (tB a) _ za HR.out.2).mono ?_
    rintro e w' ⟨he, hb⟩
    obtain rfl : e = .returned (.tuple #[.int .i64 0, .bool false]) := he.trans (num_none h1).symm
    have p1 := (hb.cell (p := ⟨bk, o + 1, none⟩) hlt).trans p1
    have p2 := (hb.cell (p := ⟨bk, o + 2, none⟩) hlt).trans p2
    have hlt := Nat.lt_of_lt_of_le hlt hb.size
    have HR := hid (HR.out.below hb)
    have HO := hid (own_below HO.out hb)
    have HB := hid (below_trans HB.out hb)
    clear he hb
    go_wp2_with fail
    refine (CutR_ok (tB b) ⟨#[45]⟩ _ (by omega) HR.out).mono ?_
    rintro e w' ⟨he, hb⟩
    obtain rfl : e = .returned (.tuple #[.string I, .string J, .bool G]) := he.trans (by rw [HI.out, HJ.out, HG.out] <;> rfl)
    have p1 := (hb.cell (p := ⟨bk, o + 1, none⟩) hlt).trans p1
    have p2 := (hb.cell (p := ⟨bk, o + 2, none⟩) hlt).trans p2
    have hlt := Nat.lt_of_lt_of_le hlt hb.size
    have HR := hid (HR.out.below hb)
    have HO := hid (own_below HO.out hb)
    have HB := hid (below_trans HB.out hb)
    clear he hb
    go_wp2_with fail
    refine (ReadDecimal_ok (tB c) _ zc HR.out.2).mono ?_
    rintro e w' ⟨he, hb⟩
    obtain rfl : e = .returned (.tuple #[.int .i64 n2, .bool b2]) := he.trans h2.symm
    have HR := hid (HR.out.below hb)
    have HO := hid (own_below HO.out hb)
    have HB := hid (below_trans HB.out hb)
    clear he hb
    clear h1 h2
    have OX := hid (HO.out.alloc (.cells #[.int .i64 0, .string J, .string I, .int .i64 n2] 50))
    have old0 := OX.out.cellAt 0 (by omega)
    have old1 := OX.out.cellAt 1 (by omega)
    have old2 := OX.out.cellAt 2 (by omega)
    have old3 := OX.out.cellAt 3 (by omega)
    have fr0 := OX.out.frozenAt 0
    have fr1 := OX.out.frozenAt 1
    have fr2 := OX.out.frozenAt 2
    have fr3 := OX.out.frozenAt 3
    simp only [List.getElem?_cons_zero, List.getElem?_cons_succ] at old0 old1 old2 old3
    go_wp2_with fail
    have RO := hid (own_setCells [.int .i64 0, .string ⟨#[]⟩, .string ⟨#[]⟩, .int .i64 0] (p := 0) OX.out)
    have z0 := RO.out.cellAt 0 (by omega)
    have z1 := RO.out.cellAt 1 (by omega)
    have z2 := RO.out.cellAt 2 (by omega)
    have z3 := RO.out.cellAt 3 (by omega)
    simp only [setSeg, setCells, Nat.zero_add, List.set_cons_zero, List.set_cons_succ, List.getElem?_cons_zero, List.getElem?_cons_succ] at z0 z1 z2 z3
    exact bodyPost_ret (v := .tuple #[.agg #[.int .i64 0, .string ⟨#[]⟩, .string ⟨#[]⟩, .int .i64 0], .bool false]) (by simp [results, Tryd.results28, go_sem, z0, z1, z2, z3]) rfl ⟨by rw [HN.out]; rfl, (((((HB.out.alloc HB.out.size _).setCell (p := ⟨w.heap.size, 0, none⟩) (Nat.le_refl _) _).setCell (p := ⟨w.heap.size, 1, none⟩) (Nat.le_refl _) _).setCell (p := ⟨w.heap.size, 2, none⟩) (Nat.le_refl _) _).setCell (p := ⟨w.heap.size, 3, none⟩) (Nat.le_refl _) _)⟩
  obtain ⟨M, h1⟩ : ∃ M, numO a = some M := Option.ne_none_iff_exists'.1 h1
  by_cases h2 : numO c = none
  · have HN := hid (fEntry_no2 HW.out h2)
    go_enter Tryd.func28, Tryd.ntmps28
    go_wp2_with fail
    refine (SplitWords_ok s _ hs HR.out).mono ?_
    rintro e w1 ⟨hp, hb⟩
    rw [HW.out] at hp
    obtain ⟨A1, c1, rfl, hS⟩ := hp
    obtain ⟨bk, o, rfl, hlt, hc⟩ := hS (by simp)
    have p0 : w1.cell? ⟨bk, o, none⟩ = some (.string (tB a)) := hc 0 a rfl
    have p1 : w1.cell? ⟨bk, o + 1, none⟩ = some (.string (tB b)) := hc 1 b rfl
    have p2 : w1.cell? ⟨bk, o + 2, none⟩ = some (.string (tB c)) := hc 2 c rfl
    have e2 : [a, b, c].length = 3 := rfl
    have HR := hid (HR.out.below hb)
    have HO := hid (own_below HO.out hb)
    have HB := hid (below_trans HB.out hb)
    clear hS hb hc
    go_wp2_with fail
    refine (ReadDecimal_ok (tB a) _ za HR.out.2).mono ?_
    rintro e w' ⟨he, hb⟩
    obtain rfl : e = .returned (.tuple #[.int .i64 M, .bool true]) := he.trans (num_some h1).symm
    have p1 := (hb.cell (p := ⟨bk, o + 1, none⟩) hlt).trans p1
    have p2 := (hb.cell (p := ⟨bk, o + 2, none⟩) hlt).trans p2
    have hlt := Nat.lt_of_lt_of_le hlt hb.size
    have HR := hid (HR.out.below hb)
    have HO := hid (own_below HO.out hb)
    have HB := hid (below_trans HB.out hb)
    clear he hb
    go_wp2_with fail
    refine (CutR_ok (tB b) ⟨#[45]⟩ _ (by omega) HR.out).mono ?_
    rintro e w' ⟨he, hb⟩
    obtain rfl : e = .returned (.tuple #[.string I, .string J, .bool G]) := he.trans (by rw [HI.out, HJ.out, HG.out] <;> rfl)
    have p1 := (hb.cell (p := ⟨bk, o + 1, none⟩) hlt).trans p1
    have p2 := (hb.cell (p := ⟨bk, o + 2, none⟩) hlt).trans p2
    have hlt := Nat.lt_of_lt_of_le hlt hb.size
    have HR := hid (HR.out.below hb)
    have HO := hid (own_below HO.out hb)
    have HB := hid (below_trans HB.out hb)
    clear he hb
    go_wp2_with fail
    refine (ReadDecimal_ok (tB c) _ zc HR.out.2).mono ?_
    rintro e w' ⟨he, hb⟩
    obtain rfl : e = .returned (.tuple #[.int .i64 0, .bool false]) := he.trans (num_none h2).symm
    have HR := hid (HR.out.below hb)
    have HO := hid (own_below HO.out hb)
    have HB := hid (below_trans HB.out hb)
    clear he hb
    clear h1 h2
    have OX := hid (HO.out.alloc (.cells #[.int .i64 M, .string J, .string I, .int .i64 0] 50))
    have old0 := OX.out.cellAt 0 (by omega)
    have old1 := OX.out.cellAt 1 (by omega)
    have old2 := OX.out.cellAt 2 (by omega)
    have old3 := OX.out.cellAt 3 (by omega)
    have fr0 := OX.out.frozenAt 0
    have fr1 := OX.out.frozenAt 1
    have fr2 := OX.out.frozenAt 2
    have fr3 := OX.out.frozenAt 3
    simp only [List.getElem?_cons_zero, List.getElem?_cons_succ] at old0 old1 old2 old3
    go_wp2_with fail
    have RO := hid (own_setCells [.int .i64 0, .string ⟨#[]⟩, .string ⟨#[]⟩, .int .i64 0] (p := 0) OX.out)
    have z0 := RO.out.cellAt 0 (by omega)
    have z1 := RO.out.cellAt 1 (by omega)
    have z2 := RO.out.cellAt 2 (by omega)
    have z3 := RO.out.cellAt 3 (by omega)
    simp only [setSeg, setCells, Nat.zero_add, List.set_cons_zero, List.set_cons_succ, List.getElem?_cons_zero, List.getElem?_cons_succ] at z0 z1 z2 z3
    exact bodyPost_ret (v := .tuple #[.agg #[.int .i64 0, .string ⟨#[]⟩, .string ⟨#[]⟩, .int .i64 0], .bool false]) (by simp [results, Tryd.results28, go_sem, z0, z1, z2, z3]) rfl ⟨by rw [HN.out]; rfl, (((((HB.out.alloc HB.out.size _).setCell (p := ⟨w.heap.size, 0, none⟩) (Nat.le_refl _) _).setCell (p := ⟨w.heap.size, 1, none⟩) (Nat.le_refl _) _).setCell (p := ⟨w.heap.size, 2, none⟩) (Nat.le_refl _) _).setCell (p := ⟨w.heap.size, 3, none⟩) (Nat.le_refl _) _)⟩
  obtain ⟨A, h2⟩ : ∃ A, numO c = some A := Option.ne_none_iff_exists'.1 h2
  by_cases ht : orNo (entryB M J I A) (entryT M J I A) = s
  · have HN := hid (fEntry_of (I := I) (J := J) HW.out (ht.trans (tB_data s).symm))
    have d1 : ((orNo (entryB M J I A) (entryT M J I A)).toList == s.toList) = true := by rw [ht, beq_iff_eq]
    clear ht
    go_enter Tryd.func28, Tryd.ntmps28
    go_wp2_with fail
    refine (SplitWords_ok s _ hs HR.out).mono ?_
    rintro e w1 ⟨hp, hb⟩
    rw [HW.out] at hp
    obtain ⟨A1, c1, rfl, hS⟩ := hp
    obtain ⟨bk, o, rfl, hlt, hc⟩ := hS (by simp)
    have p0 : w1.cell? ⟨bk, o, none⟩ = some (.string (tB a)) := hc 0 a rfl
    have p1 : w1.cell? ⟨bk, o + 1, none⟩ = some (.string (tB b)) := hc 1 b rfl
    have p2 : w1.cell? ⟨bk, o + 2, none⟩ = some (.string (tB c)) := hc 2 c rfl
    have e2 : [a, b, c].length = 3 := rfl
    have HR := hid (HR.out.below hb)
    have HO := hid (own_below HO.out hb)
    have HB := hid (below_trans HB.out hb)
    clear hS hb hc
    go_wp2_with fail
    refine (ReadDecimal_ok (tB a) _ za HR.out.2).mono ?_
    rintro e w' ⟨he, hb⟩
    obtain rfl : e = .returned (.tuple #[.int .i64 M, .bool true]) := he.trans (num_some h1).symm
    have p1 := (hb.cell (p := ⟨bk, o + 1, none⟩) hlt).trans p1
    have p2 := (hb.cell (p := ⟨bk, o + 2, none⟩) hlt).trans p2
    have hlt := Nat.lt_of_lt_of_le hlt hb.size
    have HR := hid (HR.out.below hb)
    have HO := hid (own_below HO.out hb)
    have HB := hid (below_trans HB.out hb)
    clear he hb
    go_wp2_with fail
    refine (CutR_ok (tB b) ⟨#[45]⟩ _ (by omega) HR.out).mono ?_
    rintro e w' ⟨he, hb⟩
    obtain rfl : e = .returned (.tuple #[.string I, .string J, .bool G]) := he.trans (by rw [HI.out, HJ.out, HG.out] <;> rfl)
    have p1 := (hb.cell (p := ⟨bk, o + 1, none⟩) hlt).trans p1
    have p2 := (hb.cell (p := ⟨bk, o + 2, none⟩) hlt).trans p2
    have hlt := Nat.lt_of_lt_of_le hlt hb.size
    have HR := hid (HR.out.below hb)
    have HO := hid (own_below HO.out hb)
    have HB := hid (below_trans HB.out hb)
    clear he hb
    go_wp2_with fail
    refine (ReadDecimal_ok (tB c) _ zc HR.out.2).mono ?_
    rintro e w' ⟨he, hb⟩
    obtain rfl : e = .returned (.tuple #[.int .i64 A, .bool true]) := he.trans (num_some h2).symm
    have HR := hid (HR.out.below hb)
    have HO := hid (own_below HO.out hb)
    have HB := hid (below_trans HB.out hb)
    clear he hb
    have HX := hid (HasC.new w' [.int .i64 M, .string J, .string I, .int .i64 A] 50)
    go_wp2_with fail
    refine (EntryText_ok M J I A _ (by unfold maxLen; omega) (by unfold maxLen; omega) (HR.out.2.2.below (below_alloc _ _))).mono ?_
    rintro e w6 ⟨rfl, hb⟩
    have OX := hid (own_below (HO.out.alloc (.cells #[.int .i64 M, .string J, .string I, .int .i64 A] 50)) hb)
    have BX := hid (below_trans (HB.out.alloc HB.out.size _) hb)
    have HX6 := hid (HX.out.below hb)
    have k0 := HX6.out.2 0 _ rfl
    have k1 := HX6.out.2 1 _ rfl
    have k2 := HX6.out.2 2 _ rfl
    have k3 := HX6.out.2 3 _ rfl
    clear hb HX h1 h2
    have old0 := OX.out.cellAt 0 (by omega)
    have old1 := OX.out.cellAt 1 (by omega)
    have old2 := OX.out.cellAt 2 (by omega)
    have old3 := OX.out.cellAt 3 (by omega)
    have fr0 := OX.out.frozenAt 0
    have fr1 := OX.out.frozenAt 1
    have fr2 := OX.out.frozenAt 2
    have fr3 := OX.out.frozenAt 3
    simp only [List.getElem?_cons_zero, List.getElem?_cons_succ] at old0 old1 old2 old3
    go_wp2_with fail
    have RO := hid (own_setCells [.int .i64 M, .string J, .string I, .int .i64 A] (p := 0) OX.out)
    have z0 := RO.out.cellAt 0 (by omega)
    have z1 := RO.out.cellAt 1 (by omega)
    have z2 := RO.out.cellAt 2 (by omega)
    have z3 := RO.out.cellAt 3 (by omega)
    simp only [setSeg, setCells, Nat.zero_add, List.set_cons_zero, List.set_cons_succ, List.getElem?_cons_zero, List.getElem?_cons_succ] at z0 z1 z2 z3
    exact bodyPost_ret (v := .tuple #[.agg #[.int .i64 M, .string J, .string I, .int .i64 A], .bool true]) (by simp [results, Tryd.results28, go_sem, z0, z1, z2, z3]) rfl ⟨by rw [HN.out]; rfl, (((((BX.out).setCell (p := ⟨w.heap.size, 0, none⟩) (Nat.le_refl _) _).setCell (p := ⟨w.heap.size, 1, none⟩) (Nat.le_refl _) _).setCell (p := ⟨w.heap.size, 2, none⟩) (Nat.le_refl _) _).setCell (p := ⟨w.heap.size, 3, none⟩) (Nat.le_refl _) _)⟩
  · have HN := hid (fEntry_no3 HW.out h1 h2 HI.out HJ.out (fun h => ht (h.trans (tB_data s))))
    have d1 : ((orNo (entryB M J I A) (entryT M J I A)).toList == s.toList) = false := bytes_ne (fun h => ht (by rw [← tB_data (orNo _ _), h, tB_data]))
    clear ht
    go_enter Tryd.func28, Tryd.ntmps28
    go_wp2_with fail
    refine (SplitWords_ok s _ hs HR.out).mono ?_
    rintro e w1 ⟨hp, hb⟩
    rw [HW.out] at hp
    obtain ⟨A1, c1, rfl, hS⟩ := hp
    obtain ⟨bk, o, rfl, hlt, hc⟩ := hS (by simp)
    have p0 : w1.cell? ⟨bk, o, none⟩ = some (.string (tB a)) := hc 0 a rfl
    have p1 : w1.cell? ⟨bk, o + 1, none⟩ = some (.string (tB b)) := hc 1 b rfl
    have p2 : w1.cell? ⟨bk, o + 2, none⟩ = some (.string (tB c)) := hc 2 c rfl
    have e2 : [a, b, c].length = 3 := rfl
    have HR := hid (HR.out.below hb)
    have HO := hid (own_below HO.out hb)
    have HB := hid (below_trans HB.out hb)
    clear hS hb hc
    go_wp2_with fail
    refine (ReadDecimal_ok (tB a) _ za HR.out.2).mono ?_
    rintro e w' ⟨he, hb⟩
    obtain rfl : e = .returned (.tuple #[.int .i64 M, .bool true]) := he.trans (num_some h1).symm
    have p1 := (hb.cell (p := ⟨bk, o + 1, none⟩) hlt).trans p1
    have p2 := (hb.cell (p := ⟨bk, o + 2, none⟩) hlt).trans p2
    have hlt := Nat.lt_of_lt_of_le hlt hb.size
    have HR := hid (HR.out.below hb)
    have HO := hid (own_below HO.out hb)
    have HB := hid (below_trans HB.out hb)
    clear he hb
    go_wp2_with fail
    refine (CutR_ok (tB b) ⟨#[45]⟩ _ (by omega) HR.out).mono ?_
    rintro e w' ⟨he, hb⟩
    obtain rfl : e = .returned (.tuple #[.string I, .string J, .bool G]) := he.trans (by rw [HI.out, HJ.out, HG.out] <;> rfl)
    have p1 := (hb.cell (p := ⟨bk, o + 1, none⟩) hlt).trans p1
    have p2 := (hb.cell (p := ⟨bk, o + 2, none⟩) hlt).trans p2
    have hlt := Nat.lt_of_lt_of_le hlt hb.size
    have HR := hid (HR.out.below hb)
    have HO := hid (own_below HO.out hb)
    have HB := hid (below_trans HB.out hb)
    clear he hb
    go_wp2_with fail
    refine (ReadDecimal_ok (tB c) _ zc HR.out.2).mono ?_
    rintro e w' ⟨he, hb⟩
    obtain rfl : e = .returned (.tuple #[.int .i64 A, .bool true]) := he.trans (num_some h2).symm
    have HR := hid (HR.out.below hb)
    have HO := hid (own_below HO.out hb)
    have HB := hid (below_trans HB.out hb)
    clear he hb
    have HX := hid (HasC.new w' [.int .i64 M, .string J, .string I, .int .i64 A] 50)
    go_wp2_with fail
    refine (EntryText_ok M J I A _ (by unfold maxLen; omega) (by unfold maxLen; omega) (HR.out.2.2.below (below_alloc _ _))).mono ?_
    rintro e w6 ⟨rfl, hb⟩
    have OX := hid (own_below (HO.out.alloc (.cells #[.int .i64 M, .string J, .string I, .int .i64 A] 50)) hb)
    have BX := hid (below_trans (HB.out.alloc HB.out.size _) hb)
    have HX6 := hid (HX.out.below hb)
    have k0 := HX6.out.2 0 _ rfl
    have k1 := HX6.out.2 1 _ rfl
    have k2 := HX6.out.2 2 _ rfl
    have k3 := HX6.out.2 3 _ rfl
    clear hb HX h1 h2
    have old0 := OX.out.cellAt 0 (by omega)
    have old1 := OX.out.cellAt 1 (by omega)
    have old2 := OX.out.cellAt 2 (by omega)
    have old3 := OX.out.cellAt 3 (by omega)
    have fr0 := OX.out.frozenAt 0
    have fr1 := OX.out.frozenAt 1
    have fr2 := OX.out.frozenAt 2
    have fr3 := OX.out.frozenAt 3
    simp only [List.getElem?_cons_zero, List.getElem?_cons_succ] at old0 old1 old2 old3
    go_wp2_with fail
    have RO := hid (own_setCells [.int .i64 0, .string ⟨#[]⟩, .string ⟨#[]⟩, .int .i64 0] (p := 0) OX.out)
    have z0 := RO.out.cellAt 0 (by omega)
    have z1 := RO.out.cellAt 1 (by omega)
    have z2 := RO.out.cellAt 2 (by omega)
    have z3 := RO.out.cellAt 3 (by omega)
    simp only [setSeg, setCells, Nat.zero_add, List.set_cons_zero, List.set_cons_succ, List.getElem?_cons_zero, List.getElem?_cons_succ] at z0 z1 z2 z3
    exact bodyPost_ret (v := .tuple #[.agg #[.int .i64 0, .string ⟨#[]⟩, .string ⟨#[]⟩, .int .i64 0], .bool false]) (by simp [results, Tryd.results28, go_sem, z0, z1, z2, z3]) rfl ⟨by rw [HN.out]; rfl, (((((BX.out).setCell (p := ⟨w.heap.size, 0, none⟩) (Nat.le_refl _) _).setCell (p := ⟨w.heap.size, 1, none⟩) (Nat.le_refl _) _).setCell (p := ⟨w.heap.size, 2, none⟩) (Nat.le_refl _) _).setCell (p := ⟨w.heap.size, 3, none⟩) (Nat.le_refl _) _)⟩

set_option maxHeartbeats 400000 in
set_option maxRecDepth 100000 in
theorem ReadEntry_ok (s : ByteArray) (w : World) (hs : s.size ≤ 1048576) (hR : RdW w) :
    Calls Tryd.prog 28 #[.string s] w fun e w' => e = .returned (entryRV (fEntry s.data.toList)) ∧ Below w.heap.size w w' := by
  by_cases h0 : (wordsOf s.data.toList).length = 3
  · obtain ⟨a, b, c, hw⟩ := len_three h0
    exact ReadEntry_three s a b c w hs hR hw
  · have HN := hid (fEntry_no0 h0)
    have d1 : (((wordsOf s.data.toList).length : Int) == 3) = false := by rw [beq_eq_false_iff_ne]; omega
    have HO := hid (World.ownsRow_lit (e := 50) (size := 4) w #[.int .i64 0, .string ⟨#[]⟩, .string ⟨#[]⟩, .int .i64 0] 1 (Nat.le_refl _) (by unfold maxLen; omega) rfl)
    have HB := hid (below_alloc w (.cells #[.int .i64 0, .string ⟨#[]⟩, .string ⟨#[]⟩, .int .i64 0] 50))
    have HR := hid (hR.below HB.out)
    clear hR
    go_enter Tryd.func28, Tryd.ntmps28
    go_wp2_with fail
    refine (SplitWords_ok s _ hs HR.out).mono ?_
    rintro e w1 ⟨⟨A1, c1, rfl, hS⟩, hb⟩
    have HO := hid (own_below HO.out hb)
    have HB := hid (below_trans HB.out hb)
    clear hS hb
    have old0 := HO.out.cellAt 0 (by omega)
    have old1 := HO.out.cellAt 1 (by omega)
    have old2 := HO.out.cellAt 2 (by omega)
    have old3 := HO.out.cellAt 3 (by omega)
    have fr0 := HO.out.frozenAt 0
    have fr1 := HO.out.frozenAt 1
    have fr2 := HO.out.frozenAt 2
    have fr3 := HO.out.frozenAt 3
    simp only [List.getElem?_cons_zero, List.getElem?_cons_succ] at old0 old1 old2 old3
    go_wp2_with fail
    have RO := hid (own_setCells [.int .i64 0, .string ⟨#[]⟩, .string ⟨#[]⟩, .int .i64 0] (p := 0) HO.out)
    have z0 := RO.out.cellAt 0 (by omega)
    have z1 := RO.out.cellAt 1 (by omega)
    have z2 := RO.out.cellAt 2 (by omega)
    have z3 := RO.out.cellAt 3 (by omega)
    simp only [setSeg, setCells, Nat.zero_add, List.set_cons_zero, List.set_cons_succ, List.getElem?_cons_zero, List.getElem?_cons_succ] at z0 z1 z2 z3
    exact bodyPost_ret (v := .tuple #[.agg #[.int .i64 0, .string ⟨#[]⟩, .string ⟨#[]⟩, .int .i64 0], .bool false]) (by simp [results, Tryd.results28, go_sem, z0, z1, z2, z3]) rfl ⟨by rw [HN.out]; rfl, (((((HB.out).setCell (p := ⟨w.heap.size, 0, none⟩) (Nat.le_refl _) _).setCell (p := ⟨w.heap.size, 1, none⟩) (Nat.le_refl _) _).setCell (p := ⟨w.heap.size, 2, none⟩) (Nat.le_refl _) _).setCell (p := ⟨w.heap.size, 3, none⟩) (Nat.le_refl _) _)⟩
end Go.Proofs.YtmfadjdpbobfhaaDoor
