/- ReadVisit: the program. -/
import Derived.Test.YtmfadjdpbobfhaaDoorReadVisitM
import Derived.Test.YtmfadjdpbobfhaaDoorWordsI
import Derived.Test.YtmfadjdpbobfhaaDoorReadPartI
import Derived.Stop.LaidErr
namespace Go.Proofs.YtmfadjdpbobfhaaDoor
open Go.RowKit
set_option linter.unusedVariables false

set_option maxHeartbeats 1600000 in
set_option maxRecDepth 100000 in
theorem ReadVisit_four (s : ByteArray) (a b c d : List UInt8) (w : World) (hs : s.size ≤ 1048576) (hR : RdW w) (hw : wordsOf s.data.toList = [a, b, c, d]) :
    Calls Tryd.prog 31 #[.string s] w fun e w' => e = .returned (visitRV (fVisit s.data.toList)) ∧ Below w.heap.size w w' := by
  have za : (tB a).size ≤ 1048576 := by have h3 := lenL s; have h4 := words_size (l := s.data.toList) (p := a) (by rw [hw]; simp); have h5 := lenL (tB a); rw [data_tB] at h5; omega
  have zb : (tB b).size ≤ 1048576 := by have h3 := lenL s; have h4 := words_size (l := s.data.toList) (p := b) (by rw [hw]; simp); have h5 := lenL (tB b); rw [data_tB] at h5; omega
  have zd : (tB d).size ≤ 1048576 := by have h3 := lenL s; have h4 := words_size (l := s.data.toList) (p := d) (by rw [hw]; simp); have h5 := lenL (tB d); rw [data_tB] at h5; omega
  have HW := hid hw
  have HO := hid (World.ownsRow_lit (e := 55) (size := 4) w #[.int .i64 0, .string ⟨#[]⟩, .int .i64 0, .int .i64 0] 1 (Nat.le_refl _) (by unfold maxLen; omega) rfl)
  have HB := hid (below_alloc w (.cells #[.int .i64 0, .string ⟨#[]⟩, .int .i64 0, .int .i64 0] 55))
  have HR := hid (hR.below HB.out)
  clear hR hw
  by_cases h1 : numO a = none
  · have HN := hid (fVisit_no1 HW.out h1)
    obtain ⟨n2, b2, h2⟩ : ∃ n2 b2, (Ending.returned (.tuple #[.int .i64 n2, .bool b2])) = .returned (.tuple #[.int .i64 ((numO d).getD 0), .bool (numO d).isSome]) := ⟨_, _, rfl⟩
    have g1 := num_none h1
    go_enter Tryd.func31, Tryd.ntmps31
    go_wp2_with fail
    refine (SplitWords_ok s _ hs HR.out).mono ?_
    rintro e w1 ⟨hp, hb⟩
    rw [HW.out] at hp
    obtain ⟨A1, c1, rfl, hS⟩ := hp
    obtain ⟨bk, o, rfl, hlt, hc⟩ := hS (by simp)
    have p0 : w1.cell? ⟨bk, o, none⟩ = some (.string (tB a)) := hc 0 a rfl
    have p1 : w1.cell? ⟨bk, o + 1, none⟩ = some (.string (tB b)) := hc 1 b rfl
    have p3 : w1.cell? ⟨bk, o + 3, none⟩ = some (.string (tB d)) := hc 3 d rfl
    have e2 : [a, b, c, d].length = 4 := rfl
    have HR := hid (HR.out.below hb)
    have HO := hid (own_below HO.out hb)
    have HB := hid (below_trans HB.out hb)
    clear hS hb hc
    go_wp2_with fail
    refine (ReadDecimal_ok (tB a) _ za HR.out.2).mono ?_
    rintro e w2 ⟨he, hb⟩
    obtain rfl : e = .returned (.tuple #[.int .i64 0, .bool false]) := he.trans g1.symm
    have p1 := (hb.cell (p := ⟨bk, o + 1, none⟩) hlt).trans p1
    have p3 := (hb.cell (p := ⟨bk, o + 3, none⟩) hlt).trans p3
    have hlt := Nat.lt_of_lt_of_le hlt hb.size
    have HR := hid (HR.out.below hb)
    have HO := hid (own_below HO.out hb)
    have HB := hid (below_trans HB.out hb)
    clear he hb
    go_wp2_with fail
    refine (ReadDecimal_ok (tB d) _ zd HR.out.2).mono ?_
    rintro e w3 ⟨he, hb⟩
    obtain rfl : e = .returned (.tuple #[.int .i64 n2, .bool b2]) := he.trans h2.symm
    have p1 := (hb.cell (p := ⟨bk, o + 1, none⟩) hlt).trans p1
    have hlt := Nat.lt_of_lt_of_le hlt hb.size
    have HR := hid (HR.out.below hb)
    have HO := hid (own_below HO.out hb)
    have HB := hid (below_trans HB.out hb)
    clear he hb
    go_wp2_with fail
    go_loopw [9] (fun i wr => i = .int .i64 1 ∧ wr = w3) (fun _ _ => 0)
    case atStart => exact ⟨rfl, rfl⟩
    case round =>
      obtain ⟨rfl, rfl⟩ := hrel
      have old0 := HO.out.cellAt 0 (by omega)
      have old1 := HO.out.cellAt 1 (by omega)
      have old2 := HO.out.cellAt 2 (by omega)
      have old3 := HO.out.cellAt 3 (by omega)
      have fr0 := HO.out.frozenAt 0
      have fr1 := HO.out.frozenAt 1
      have fr2 := HO.out.frozenAt 2
      have fr3 := HO.out.frozenAt 3
      simp only [List.getElem?_cons_zero, List.getElem?_cons_succ] at old0 old1 old2 old3
      go_wp2_with fail
      have RO := hid (own_setCells [.int .i64 0, .string ⟨#[]⟩, .int .i64 0, .int .i64 0] (p := 0) HO.out)
      have z0 := RO.out.cellAt 0 (by omega)
      have z1 := RO.out.cellAt 1 (by omega)
      have z2 := RO.out.cellAt 2 (by omega)
      have z3 := RO.out.cellAt 3 (by omega)
      simp only [setSeg, setCells, Nat.zero_add, List.set_cons_zero, List.set_cons_succ, List.getElem?_cons_zero, List.getElem?_cons_succ] at z0 z1 z2 z3
      exact bodyPost_ret (v := .tuple #[.agg #[.int .i64 0, .string ⟨#[]⟩, .int .i64 0, .int .i64 0], .bool false]) (by simp [results, Tryd.results31, go_sem, z0, z1, z2, z3]) rfl ⟨by rw [HN.out]; rfl, (((((HB.out).setCell (p := ⟨w.heap.size, 0, none⟩) (Nat.le_refl _) _).setCell (p := ⟨w.heap.size, 1, none⟩) (Nat.le_refl _) _).setCell (p := ⟨w.heap.size, 2, none⟩) (Nat.le_refl _) _).setCell (p := ⟨w.heap.size, 3, none⟩) (Nat.le_refl _) _)⟩
  obtain ⟨M, h1⟩ : ∃ M, numO a = some M := Option.ne_none_iff_exists'.1 h1
  by_cases h2 : numO d = none
  · have HN := hid (fVisit_no2 HW.out h2)
    have g1 := num_some h1
    have g2 := num_none h2
    go_enter Tryd.func31, Tryd.ntmps31
    go_wp2_with fail
    refine (SplitWords_ok s _ hs HR.out).mono ?_
    rintro e w1 ⟨hp, hb⟩
    rw [HW.out] at hp
    obtain ⟨A1, c1, rfl, hS⟩ := hp
    obtain ⟨bk, o, rfl, hlt, hc⟩ := hS (by simp)
    have p0 : w1.cell? ⟨bk, o, none⟩ = some (.string (tB a)) := hc 0 a rfl
    have p1 : w1.cell? ⟨bk, o + 1, none⟩ = some (.string (tB b)) := hc 1 b rfl
    have p3 : w1.cell? ⟨bk, o + 3, none⟩ = some (.string (tB d)) := hc 3 d rfl
    have e2 : [a, b, c, d].length = 4 := rfl
    have HR := hid (HR.out.below hb)
    have HO := hid (own_below HO.out hb)
    have HB := hid (below_trans HB.out hb)
    clear hS hb hc
    go_wp2_with fail
    refine (ReadDecimal_ok (tB a) _ za HR.out.2).mono ?_
    rintro e w2 ⟨he, hb⟩
    obtain rfl : e = .returned (.tuple #[.int .i64 M, .bool true]) := he.trans g1.symm
    have p1 := (hb.cell (p := ⟨bk, o + 1, none⟩) hlt).trans p1
    have p3 := (hb.cell (p := ⟨bk, o + 3, none⟩) hlt).trans p3
    have hlt := Nat.lt_of_lt_of_le hlt hb.size
    have HR := hid (HR.out.below hb)
    have HO := hid (own_below HO.out hb)
    have HB := hid (below_trans HB.out hb)
    clear he hb
    go_wp2_with fail
    refine (ReadDecimal_ok (tB d) _ zd HR.out.2).mono ?_
    rintro e w3 ⟨he, hb⟩
    obtain rfl : e = .returned (.tuple #[.int .i64 0, .bool false]) := he.trans g2.symm
    have p1 := (hb.cell (p := ⟨bk, o + 1, none⟩) hlt).trans p1
    have hlt := Nat.lt_of_lt_of_le hlt hb.size
    have HR := hid (HR.out.below hb)
    have HO := hid (own_below HO.out hb)
    have HB := hid (below_trans HB.out hb)
    clear he hb
    go_wp2_with fail
    go_loopw [9] (fun i wr => i = .int .i64 1 ∧ wr = w3) (fun _ _ => 0)
    case atStart => exact ⟨rfl, rfl⟩
    case round =>
      obtain ⟨rfl, rfl⟩ := hrel
      have old0 := HO.out.cellAt 0 (by omega)
      have old1 := HO.out.cellAt 1 (by omega)
      have old2 := HO.out.cellAt 2 (by omega)
      have old3 := HO.out.cellAt 3 (by omega)
      have fr0 := HO.out.frozenAt 0
      have fr1 := HO.out.frozenAt 1
      have fr2 := HO.out.frozenAt 2
      have fr3 := HO.out.frozenAt 3
      simp only [List.getElem?_cons_zero, List.getElem?_cons_succ] at old0 old1 old2 old3
      go_wp2_with fail
      have RO := hid (own_setCells [.int .i64 0, .string ⟨#[]⟩, .int .i64 0, .int .i64 0] (p := 0) HO.out)
      have z0 := RO.out.cellAt 0 (by omega)
      have z1 := RO.out.cellAt 1 (by omega)
      have z2 := RO.out.cellAt 2 (by omega)
      have z3 := RO.out.cellAt 3 (by omega)
      simp only [setSeg, setCells, Nat.zero_add, List.set_cons_zero, List.set_cons_succ, List.getElem?_cons_zero, List.getElem?_cons_succ] at z0 z1 z2 z3
      exact bodyPost_ret (v := .tuple #[.agg #[.int .i64 0, .string ⟨#[]⟩, .int .i64 0, .int .i64 0], .bool false]) (by simp [results, Tryd.results31, go_sem, z0, z1, z2, z3]) rfl ⟨by rw [HN.out]; rfl, (((((HB.out).setCell (p := ⟨w.heap.size, 0, none⟩) (Nat.le_refl _) _).setCell (p := ⟨w.heap.size, 1, none⟩) (Nat.le_refl _) _).setCell (p := ⟨w.heap.size, 2, none⟩) (Nat.le_refl _) _).setCell (p := ⟨w.heap.size, 3, none⟩) (Nat.le_refl _) _)⟩
  obtain ⟨A, h2⟩ : ∃ A, numO d = some A := Option.ne_none_iff_exists'.1 h2
  have g1 := num_some h1
  have g2 := num_some h2
  go_enter Tryd.func31, Tryd.ntmps31
  go_wp2_with fail
  refine (SplitWords_ok s _ hs HR.out).mono ?_
  rintro e w1 ⟨hp, hb⟩
  rw [HW.out] at hp
  obtain ⟨A1, c1, rfl, hS⟩ := hp
  obtain ⟨bk, o, rfl, hlt, hc⟩ := hS (by simp)
  have p0 : w1.cell? ⟨bk, o, none⟩ = some (.string (tB a)) := hc 0 a rfl
  have p1 : w1.cell? ⟨bk, o + 1, none⟩ = some (.string (tB b)) := hc 1 b rfl
  have p3 : w1.cell? ⟨bk, o + 3, none⟩ = some (.string (tB d)) := hc 3 d rfl
  have e2 : [a, b, c, d].length = 4 := rfl
  have HR := hid (HR.out.below hb)
  have HO := hid (own_below HO.out hb)
  have HB := hid (below_trans HB.out hb)
  clear hS hb hc
  go_wp2_with fail
  refine (ReadDecimal_ok (tB a) _ za HR.out.2).mono ?_
  rintro e w2 ⟨he, hb⟩
  obtain rfl : e = .returned (.tuple #[.int .i64 M, .bool true]) := he.trans g1.symm
  have p1 := (hb.cell (p := ⟨bk, o + 1, none⟩) hlt).trans p1
  have p3 := (hb.cell (p := ⟨bk, o + 3, none⟩) hlt).trans p3
  have hlt := Nat.lt_of_lt_of_le hlt hb.size
  have HR := hid (HR.out.below hb)
  have HO := hid (own_below HO.out hb)
  have HB := hid (below_trans HB.out hb)
  clear he hb
  go_wp2_with fail
  refine (ReadDecimal_ok (tB d) _ zd HR.out.2).mono ?_
  rintro e w3 ⟨he, hb⟩
  obtain rfl : e = .returned (.tuple #[.int .i64 A, .bool true]) := he.trans g2.symm
  have p1 := (hb.cell (p := ⟨bk, o + 1, none⟩) hlt).trans p1
  have hlt := Nat.lt_of_lt_of_le hlt hb.size
  have HR := hid (HR.out.below hb)
  have HO := hid (own_below HO.out hb)
  have HB := hid (below_trans HB.out hb)
  clear he hb
  clear g1 g2 p0
  go_wp2_with fail
  go_loopw [9] (fun i wr => ∃ k : Nat, 1 ≤ k ∧ k ≤ 5 ∧ i = .int .i64 (k : Int) ∧ wr.ownsRow w.heap.size 55 4 (.slice (some ⟨w.heap.size, 0, none⟩) 1 1) 1 [.int .i64 0, .string ⟨#[]⟩, .int .i64 0, .int .i64 0] ∧ Below w.heap.size w wr ∧ RdW wr ∧ bk < wr.heap.size ∧ wr.cell? ⟨bk, o + 1, none⟩ = some (.string (tB b)) ∧ ∀ j : Nat, 1 ≤ j → j < k → orNo (visitB M (tB b) j A) (visitT M (tB b) j A) ≠ s) (fun i _ => 5 - (intOf i).toNat)
  case atStart => exact ⟨1, Nat.le_refl _, by omega, rfl, HO.out, HB.out, HR.out, hlt, p1, fun j h3 h4 => by omega⟩
  case round =>
    clear HO HB HR hlt p1
    obtain ⟨k, hk1, hk5, rfl, ho, hbel, hR, hlt, p1, hno⟩ := hrel
    have HO := hid ho
    have HB := hid hbel
    have HR := hid hR
    have HQ := hid hno
    clear ho hbel hR hno
    by_cases hk : k < 5
    · have q1 : (k : Int) ≤ 4 := by omega
      by_cases ht : orNo (visitB M (tB b) k A) (visitT M (tB b) k A) = s
      · have HN := hid (fVisit_of (I := tB b) HW.out (ht.trans (tB_data s).symm))
        have d1 : ((orNo (visitB M (tB b) k A) (visitT M (tB b) k A)).toList == s.toList) = true := by rw [ht, beq_iff_eq]
        clear ht
        have HX := hid (HasC.new wr [.int .i64 M, .string (tB b), .int .i64 (k : Int), .int .i64 A] 55)
        go_wp2_with fail
        refine (VisitText_ok M (tB b) (k : Int) A _ (by unfold maxLen; omega) (HR.out.2.2.below (below_alloc _ _))).mono ?_
        rintro e w6 ⟨rfl, hb⟩
        have OX := hid (own_below (HO.out.alloc (.cells #[.int .i64 M, .string (tB b), .int .i64 (k : Int), .int .i64 A] 55)) hb)
        have BX := hid (below_trans (HB.out.alloc HB.out.size _) hb)
        have RX := hid ((HR.out.below (below_alloc _ (.cells #[.int .i64 M, .string (tB b), .int .i64 (k : Int), .int .i64 A] 55))).below hb)
        have HX6 := hid (HX.out.below hb)
        have p6 := (hb.cell (p := ⟨bk, o + 1, none⟩) (by simp; omega)).trans ((cell?_alloc_old (.cells #[.int .i64 M, .string (tB b), .int .i64 (k : Int), .int .i64 A] 55) p1))
        have k0 := HX6.out.2 0 _ rfl
        have k1 := HX6.out.2 1 _ rfl
        have k2 := HX6.out.2 2 _ rfl
        have k3 := HX6.out.2 3 _ rfl
        clear hb HX
        have old0 := OX.out.cellAt 0 (by omega)
        have old1 := OX.out.cellAt 1 (by omega)
        have old2 := OX.out.cellAt 2 (by omega)
        have old3 := OX.out.cellAt 3 (by omega)
        have fr0 := OX.out.frozenAt 0
        have fr1 := OX.out.frozenAt 1
        have fr2 := OX.out.frozenAt 2
        have fr3 := OX.out.frozenAt 3
        simp only [List.getElem?_cons_zero, List.getElem?_cons_succ] at old0 old1 old2 old3
        go_wp2_with fail
        have RO := hid (own_setCells [.int .i64 M, .string (tB b), .int .i64 (k : Int), .int .i64 A] (p := 0) OX.out)
        have z0 := RO.out.cellAt 0 (by omega)
        have z1 := RO.out.cellAt 1 (by omega)
        have z2 := RO.out.cellAt 2 (by omega)
        have z3 := RO.out.cellAt 3 (by omega)
        simp only [setSeg, setCells, Nat.zero_add, List.set_cons_zero, List.set_cons_succ, List.getElem?_cons_zero, List.getElem?_cons_succ] at z0 z1 z2 z3
        exact bodyPost_ret (v := .tuple #[.agg #[.int .i64 M, .string (tB b), .int .i64 (k : Int), .int .i64 A], .bool true]) (by simp [results, Tryd.results31, go_sem, z0, z1, z2, z3]) rfl ⟨by rw [HN.out]; rfl, (((((BX.out).setCell (p := ⟨w.heap.size, 0, none⟩) (Nat.le_refl _) _).setCell (p := ⟨w.heap.size, 1, none⟩) (Nat.le_refl _) _).setCell (p := ⟨w.heap.size, 2, none⟩) (Nat.le_refl _) _).setCell (p := ⟨w.heap.size, 3, none⟩) (Nat.le_refl _) _)⟩
      · have d1 : ((orNo (visitB M (tB b) k A) (visitT M (tB b) k A)).toList == s.toList) = false := bytes_ne (fun h => ht (by rw [← tB_data (orNo _ _), h, tB_data]))
        have HX := hid (HasC.new wr [.int .i64 M, .string (tB b), .int .i64 (k : Int), .int .i64 A] 55)
        go_wp2_with fail
        refine (VisitText_ok M (tB b) (k : Int) A _ (by unfold maxLen; omega) (HR.out.2.2.below (below_alloc _ _))).mono ?_
        rintro e w6 ⟨rfl, hb⟩
        have OX := hid (own_below (HO.out.alloc (.cells #[.int .i64 M, .string (tB b), .int .i64 (k : Int), .int .i64 A] 55)) hb)
        have BX := hid (below_trans (HB.out.alloc HB.out.size _) hb)
        have RX := hid ((HR.out.below (below_alloc _ (.cells #[.int .i64 M, .string (tB b), .int .i64 (k : Int), .int .i64 A] 55))).below hb)
        have HX6 := hid (HX.out.below hb)
        have p6 := (hb.cell (p := ⟨bk, o + 1, none⟩) (by simp; omega)).trans ((cell?_alloc_old (.cells #[.int .i64 M, .string (tB b), .int .i64 (k : Int), .int .i64 A] 55) p1))
        have k0 := HX6.out.2 0 _ rfl
        have k1 := HX6.out.2 1 _ rfl
        have k2 := HX6.out.2 2 _ rfl
        have k3 := HX6.out.2 3 _ rfl
        clear hb HX
        go_wp2_with fail
        go_roundw
        case rel => exact ⟨k + 1, by omega, by omega, by go_num, OX.out, BX.out, RX.out, Nat.lt_trans hlt HX6.out.1, p6, fun j h3 h4 => by rcases Nat.lt_or_ge j k with h5 | h5; exact HQ.out j h3 h5; have h6 : j = k := (by omega); subst h6; exact ht⟩
        case measure => simp [intOf]; omega
    · have q1 : ¬ (k : Int) ≤ 4 := by omega
      have HN := hid (fVisit_no3 HW.out h1 h2 (fun j h3 h4 h => by obtain ⟨n, rfl⟩ := Int.eq_ofNat_of_zero_le (show 0 ≤ j by omega); exact HQ.out n (by omega) (by omega) (h.trans (tB_data s))))
      have old0 := HO.out.cellAt 0 (by omega)
      have old1 := HO.out.cellAt 1 (by omega)
      have old2 := HO.out.cellAt 2 (by omega)
      have old3 := HO.out.cellAt 3 (by omega)
      have fr0 := HO.out.frozenAt 0
      have fr1 := HO.out.frozenAt 1
      have fr2 := HO.out.frozenAt 2
      have fr3 := HO.out.frozenAt 3
      simp only [List.getElem?_cons_zero, List.getElem?_cons_succ] at old0 old1 old2 old3
      go_wp2_with fail
      have RO := hid (own_setCells [.int .i64 0, .string ⟨#[]⟩, .int .i64 0, .int .i64 0] (p := 0) HO.out)
      have z0 := RO.out.cellAt 0 (by omega)
      have z1 := RO.out.cellAt 1 (by omega)
      have z2 := RO.out.cellAt 2 (by omega)
      have z3 := RO.out.cellAt 3 (by omega)
      simp only [setSeg, setCells, Nat.zero_add, List.set_cons_zero, List.set_cons_succ, List.getElem?_cons_zero, List.getElem?_cons_succ] at z0 z1 z2 z3
      exact bodyPost_ret (v := .tuple #[.agg #[.int .i64 0, .string ⟨#[]⟩, .int .i64 0, .int .i64 0], .bool false]) (by simp [results, Tryd.results31, go_sem, z0, z1, z2, z3]) rfl ⟨by rw [HN.out]; rfl, (((((HB.out).setCell (p := ⟨w.heap.size, 0, none⟩) (Nat.le_refl _) _).setCell (p := ⟨w.heap.size, 1, none⟩) (Nat.le_refl _) _).setCell (p := ⟨w.heap.size, 2, none⟩) (Nat.le_refl _) _).setCell (p := ⟨w.heap.size, 3, none⟩) (Nat.le_refl _) _)⟩

set_option maxHeartbeats 400000 in
set_option maxRecDepth 100000 in
theorem ReadVisit_ok (s : ByteArray) (w : World) (hs : s.size ≤ 1048576) (hR : RdW w) :
    Calls Tryd.prog 31 #[.string s] w fun e w' => e = .returned (visitRV (fVisit s.data.toList)) ∧ Below w.heap.size w w' := by
  by_cases h0 : (wordsOf s.data.toList).length = 4
  · obtain ⟨a, b, c, d, hw⟩ := len_four h0
    exact ReadVisit_four s a b c d w hs hR hw
  · have HN := hid (fVisit_no0 h0)
    have d1 : (((wordsOf s.data.toList).length : Int) == 4) = false := by rw [beq_eq_false_iff_ne]; omega
    have HO := hid (World.ownsRow_lit (e := 55) (size := 4) w #[.int .i64 0, .string ⟨#[]⟩, .int .i64 0, .int .i64 0] 1 (Nat.le_refl _) (by unfold maxLen; omega) rfl)
    have HB := hid (below_alloc w (.cells #[.int .i64 0, .string ⟨#[]⟩, .int .i64 0, .int .i64 0] 55))
    have HR := hid (hR.below HB.out)
    clear hR
    go_enter Tryd.func31, Tryd.ntmps31
    go_wp2_with fail
    refine (SplitWords_ok s _ hs HR.out).mono ?_
    rintro e w1 ⟨⟨A1, c1, rfl, hS⟩, hb⟩
    have HO := hid (own_below HO.out hb)
    have HB := hid (below_trans HB.out hb)
    clear hS hb
    have old0 := HO.out.cellAt 0 (by omega)
    have old1 := HO.out.cellAt 1 (by omega)
    have old2 := HO.out.cellAt 2 (by omega)
    have old3 := HO.out.cellAt 3 (by omega)
    have fr0 := HO.out.frozenAt 0
    have fr1 := HO.out.frozenAt 1
    have fr2 := HO.out.frozenAt 2
    have fr3 := HO.out.frozenAt 3
    simp only [List.getElem?_cons_zero, List.getElem?_cons_succ] at old0 old1 old2 old3
    go_wp2_with fail
    have RO := hid (own_setCells [.int .i64 0, .string ⟨#[]⟩, .int .i64 0, .int .i64 0] (p := 0) HO.out)
    have z0 := RO.out.cellAt 0 (by omega)
    have z1 := RO.out.cellAt 1 (by omega)
    have z2 := RO.out.cellAt 2 (by omega)
    have z3 := RO.out.cellAt 3 (by omega)
    simp only [setSeg, setCells, Nat.zero_add, List.set_cons_zero, List.set_cons_succ, List.getElem?_cons_zero, List.getElem?_cons_succ] at z0 z1 z2 z3
    exact bodyPost_ret (v := .tuple #[.agg #[.int .i64 0, .string ⟨#[]⟩, .int .i64 0, .int .i64 0], .bool false]) (by simp [results, Tryd.results31, go_sem, z0, z1, z2, z3]) rfl ⟨by rw [HN.out]; rfl, (((((HB.out).setCell (p := ⟨w.heap.size, 0, none⟩) (Nat.le_refl _) _).setCell (p := ⟨w.heap.size, 1, none⟩) (Nat.le_refl _) _).setCell (p := ⟨w.heap.size, 2, none⟩) (Nat.le_refl _) _).setCell (p := ⟨w.heap.size, 3, none⟩) (Nat.le_refl _) _)⟩
end Go.Proofs.YtmfadjdpbobfhaaDoor
