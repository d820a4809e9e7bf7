/- ReadPart: the program. -/
import Derived.Test.YtmfadjdpbobfhaaDoorReadPartM
import Derived.Test.YtmfadjdpbobfhaaDoorPart
namespace Go.Proofs.YtmfadjdpbobfhaaDoor
open Go.RowKit
set_option linter.unusedVariables false

theorem CutR_ok (s sep : ByteArray) (w : World) (hs : s.size < 4294967281) (hR : RdW w) :
    Calls Tryd.prog 73 #[.string s, .string sep] w fun e w' => e = .returned (.tuple #[.string ⟨(Lib.cut s.data.toList sep.data.toList).1.toArray⟩, .string ⟨(Lib.cut s.data.toList sep.data.toList).2.1.toArray⟩, .bool (Lib.cut s.data.toList sep.data.toList).2.2]) ∧ Below w.heap.size w w' := by
  obtain ⟨⟨m, hm⟩, _⟩ := hR
  refine (Tryd.strings_Cut s sep m w hs hm).mono ?_
  rintro e w' ⟨rfl, n, rfl⟩
  exact ⟨rfl, below_drewN _ _⟩

set_option maxHeartbeats 400000 in
set_option maxRecDepth 100000 in
theorem ReadPart_ok (s : ByteArray) (w : World) (hs : s.size ≤ 1048576) (hR : RdW w) :
    Calls Tryd.prog 22 #[.string s] w fun e w' => e = .returned (partRV (fPart s.data.toList)) ∧ Below w.heap.size w w' := by
  obtain ⟨I, hI⟩ : ∃ I : ByteArray, I = tB (Lib.cut s.data.toList [32]).1 := ⟨_, rfl⟩
  obtain ⟨R, hRr⟩ : ∃ R : ByteArray, R = tB (Lib.cut s.data.toList [32]).2.1 := ⟨_, rfl⟩
  obtain ⟨F, hF⟩ : ∃ F : Bool, F = (Lib.cut s.data.toList [32]).2.2 := ⟨_, rfl⟩
  obtain ⟨MS, hMS⟩ : ∃ M : ByteArray, M = tB (Lib.cut R.data.toList [64]).1 := ⟨_, rfl⟩
  obtain ⟨AT, hAT⟩ : ∃ A : ByteArray, A = tB (Lib.cut R.data.toList [64]).2.1 := ⟨_, rfl⟩
  obtain ⟨F2, hF2⟩ : ∃ F : Bool, F = (Lib.cut R.data.toList [64]).2.2 := ⟨_, rfl⟩
  have l1 := cut_len s.data.toList 32
  have l2 := cut_len R.data.toList 64
  have eR : R.data.toList = (Lib.cut s.data.toList [32]).2.1 := by rw [hRr]; rfl
  have zI : I.size ≤ 1048576 := by rw [hI, ← lenL, data_tB]; have := lenL s; omega
  have zR : R.size ≤ 1048576 := by rw [← lenL, eR]; have := lenL s; omega
  have zM : MS.size ≤ 1048576 := by rw [hMS, ← lenL, data_tB]; have := lenL R; omega
  have zA : AT.size ≤ 1048576 := by rw [hAT, ← lenL, data_tB]; have := lenL R; omega
  have eM : MS.data.toList = (Lib.cut (Lib.cut s.data.toList [32]).2.1 [64]).1 := by rw [hMS, data_tB, eR]
  have eA : AT.data.toList = (Lib.cut (Lib.cut s.data.toList [32]).2.1 [64]).2.1 := by rw [hAT, data_tB, eR]
  have HI := hid hI
  have HRr := hid hRr
  have HF := hid hF
  have HMS := hid hMS
  have HAT := hid hAT
  have HF2 := hid hF2
  have HO := hid (World.ownsRow_lit (e := 39) (size := 3) w #[.string ⟨#[]⟩, .int .i64 0, .int .i64 0] 1 (Nat.le_refl _) (by unfold maxLen; omega) rfl)
  have HB := hid (below_alloc w (.cells #[.string ⟨#[]⟩, .int .i64 0, .int .i64 0] 39))
  have HR := hid (hR.below HB.out)
  have E1 := hid eM
  have E2 := hid eA
  clear hI hRr hF hMS hAT hF2 l1 l2 eR hR eM eA
  by_cases h1 : numO MS.data.toList = none
  · have HN := hid (fPart_no1 (l := s.data.toList) (by rw [← E1.out]; exact h1))
    obtain ⟨n2, b2, h2⟩ : ∃ n2 b2, (Ending.returned (.tuple #[.int .i64 n2, .bool b2])) = .returned (.tuple #[.int .i64 ((numO AT.data.toList).getD 0), .bool (numO AT.data.toList).isSome]) := ⟨_, _, rfl⟩
    go_enter Tryd.func22, Tryd.ntmps22
    go_wp2_with fail
    refine (CutR_ok s ⟨#[32]⟩ _ (by omega) HR.out).mono ?_
    rintro e w' ⟨he, hb⟩
    obtain rfl : e = .returned (.tuple #[.string I, .string R, .bool F]) := he.trans (by rw [HI.out, HRr.out, HF.out] <;> rfl)
    clear he
    have HR := hid (HR.out.below hb)
    have HO := hid (own_below HO.out hb)
    have HB := hid (below_trans HB.out hb)
    clear hb
    go_wp2_with fail
    refine (CutR_ok R ⟨#[64]⟩ _ (by omega) HR.out).mono ?_
    rintro e w' ⟨he, hb⟩
    obtain rfl : e = .returned (.tuple #[.string MS, .string AT, .bool F2]) := he.trans (by rw [HMS.out, HAT.out, HF2.out] <;> rfl)
    clear he
    have HR := hid (HR.out.below hb)
    have HO := hid (own_below HO.out hb)
    have HB := hid (below_trans HB.out hb)
    clear hb
    go_wp2_with fail
    refine (ReadDecimal_ok MS _ (by omega) HR.out.2).mono ?_
    rintro e w' ⟨he, hb⟩
    obtain rfl : e = .returned (.tuple #[.int .i64 0, .bool false]) := he.trans (num_none h1).symm
    clear he
    have HR := hid (HR.out.below hb)
    have HO := hid (own_below HO.out hb)
    have HB := hid (below_trans HB.out hb)
    clear hb
    go_wp2_with fail
    refine (ReadDecimal_ok AT _ (by omega) HR.out.2).mono ?_
    rintro e w' ⟨he, hb⟩
    obtain rfl : e = .returned (.tuple #[.int .i64 n2, .bool b2]) := he.trans h2.symm
    clear he
    have HR := hid (HR.out.below hb)
    have HO := hid (own_below HO.out hb)
    have HB := hid (below_trans HB.out hb)
    clear hb
    clear h1 h2
    have OX := hid (HO.out.alloc (.cells #[.string I, .int .i64 n2, .int .i64 0] 39))
    have old0 := OX.out.cellAt 0 (by omega)
    have old1 := OX.out.cellAt 1 (by omega)
    have old2 := OX.out.cellAt 2 (by omega)
    have fr0 := OX.out.frozenAt 0
    have fr1 := OX.out.frozenAt 1
    have fr2 := OX.out.frozenAt 2
    simp only [List.getElem?_cons_zero, List.getElem?_cons_succ] at old0 old1 old2
    go_wp2_with fail
    have RO := hid (own_setCells [.string ⟨#[]⟩, .int .i64 0, .int .i64 0] (p := 0) OX.out)
    have z0 := RO.out.cellAt 0 (by omega)
    have z1 := RO.out.cellAt 1 (by omega)
    have z2 := RO.out.cellAt 2 (by omega)
    simp only [setSeg, setCells, Nat.zero_add, List.set_cons_zero, List.set_cons_succ, List.getElem?_cons_zero, List.getElem?_cons_succ] at z0 z1 z2
    exact bodyPost_ret (v := .tuple #[.agg #[.string ⟨#[]⟩, .int .i64 0, .int .i64 0], .bool false]) (by simp [results, Tryd.results22, go_sem, z0, z1, z2]) rfl ⟨by rw [HN.out]; rfl, (((HB.out.alloc HB.out.size _).setCell (p := ⟨w.heap.size, 0, none⟩) (Nat.le_refl _) _).setCell (p := ⟨w.heap.size, 1, none⟩) (Nat.le_refl _) _).setCell (p := ⟨w.heap.size, 2, none⟩) (Nat.le_refl _) _⟩
  obtain ⟨M, h1⟩ : ∃ M, numO MS.data.toList = some M := Option.ne_none_iff_exists'.1 h1
  by_cases h2 : numO AT.data.toList = none
  · have HN := hid (fPart_no2 (l := s.data.toList) (by rw [← E2.out]; exact h2))
    go_enter Tryd.func22, Tryd.ntmps22
    go_wp2_with fail
    refine (CutR_ok s ⟨#[32]⟩ _ (by omega) HR.out).mono ?_
    rintro e w' ⟨he, hb⟩
    obtain rfl : e = .returned (.tuple #[.string I, .string R, .bool F]) := he.trans (by rw [HI.out, HRr.out, HF.out] <;> rfl)
    clear he
    have HR := hid (HR.out.below hb)
    have HO := hid (own_below HO.out hb)
    have HB := hid (below_trans HB.out hb)
    clear hb
    go_wp2_with fail
    refine (CutR_ok R ⟨#[64]⟩ _ (by omega) HR.out).mono ?_
    rintro e w' ⟨he, hb⟩
    obtain rfl : e = .returned (.tuple #[.string MS, .string AT, .bool F2]) := he.trans (by rw [HMS.out, HAT.out, HF2.out] <;> rfl)
    clear he
    have HR := hid (HR.out.below hb)
    have HO := hid (own_below HO.out hb)
    have HB := hid (below_trans HB.out hb)
    clear hb
    go_wp2_with fail
    refine (ReadDecimal_ok MS _ (by omega) HR.out.2).mono ?_
    rintro e w' ⟨he, hb⟩
    obtain rfl : e = .returned (.tuple #[.int .i64 M, .bool true]) := he.trans (num_some h1).symm
    clear he
    have HR := hid (HR.out.below hb)
    have HO := hid (own_below HO.out hb)
    have HB := hid (below_trans HB.out hb)
    clear hb
    go_wp2_with fail
    refine (ReadDecimal_ok AT _ (by omega) HR.out.2).mono ?_
    rintro e w' ⟨he, hb⟩
    obtain rfl : e = .returned (.tuple #[.int .i64 0, .bool false]) := he.trans (num_none h2).symm
    clear he
    have HR := hid (HR.out.below hb)
    have HO := hid (own_below HO.out hb)
    have HB := hid (below_trans HB.out hb)
    clear hb
    clear h1 h2
    have OX := hid (HO.out.alloc (.cells #[.string I, .int .i64 0, .int .i64 M] 39))
    have old0 := OX.out.cellAt 0 (by omega)
    have old1 := OX.out.cellAt 1 (by omega)
    have old2 := OX.out.cellAt 2 (by omega)
    have fr0 := OX.out.frozenAt 0
    have fr1 := OX.out.frozenAt 1
    have fr2 := OX.out.frozenAt 2
    simp only [List.getElem?_cons_zero, List.getElem?_cons_succ] at old0 old1 old2
    go_wp2_with fail
    have RO := hid (own_setCells [.string ⟨#[]⟩, .int .i64 0, .int .i64 0] (p := 0) OX.out)
    have z0 := RO.out.cellAt 0 (by omega)
    have z1 := RO.out.cellAt 1 (by omega)
    have z2 := RO.out.cellAt 2 (by omega)
    simp only [setSeg, setCells, Nat.zero_add, List.set_cons_zero, List.set_cons_succ, List.getElem?_cons_zero, List.getElem?_cons_succ] at z0 z1 z2
    exact bodyPost_ret (v := .tuple #[.agg #[.string ⟨#[]⟩, .int .i64 0, .int .i64 0], .bool false]) (by simp [results, Tryd.results22, go_sem, z0, z1, z2]) rfl ⟨by rw [HN.out]; rfl, (((HB.out.alloc HB.out.size _).setCell (p := ⟨w.heap.size, 0, none⟩) (Nat.le_refl _) _).setCell (p := ⟨w.heap.size, 1, none⟩) (Nat.le_refl _) _).setCell (p := ⟨w.heap.size, 2, none⟩) (Nat.le_refl _) _⟩
  obtain ⟨A, h2⟩ : ∃ A, numO AT.data.toList = some A := Option.ne_none_iff_exists'.1 h2
  by_cases ht : orNo (partB I A M) (partT I A M) = s
  · have HN := hid (fPart_of (R := R) HI.out (by rw [← E1.out]; exact h1) (by rw [← E2.out]; exact h2) (ht.trans (tB_data s).symm))
    have d1 : ((orNo (partB I A M) (partT I A M)).toList == s.toList) = true := by rw [ht, beq_iff_eq]
    clear ht
    go_enter Tryd.func22, Tryd.ntmps22
    go_wp2_with fail
    refine (CutR_ok s ⟨#[32]⟩ _ (by omega) HR.out).mono ?_
    rintro e w' ⟨he, hb⟩
    obtain rfl : e = .returned (.tuple #[.string I, .string R, .bool F]) := he.trans (by rw [HI.out, HRr.out, HF.out] <;> rfl)
    clear he
    have HR := hid (HR.out.below hb)
    have HO := hid (own_below HO.out hb)
    have HB := hid (below_trans HB.out hb)
    clear hb
    go_wp2_with fail
    refine (CutR_ok R ⟨#[64]⟩ _ (by omega) HR.out).mono ?_
    rintro e w' ⟨he, hb⟩
    obtain rfl : e = .returned (.tuple #[.string MS, .string AT, .bool F2]) := he.trans (by rw [HMS.out, HAT.out, HF2.out] <;> rfl)
    clear he
    have HR := hid (HR.out.below hb)
    have HO := hid (own_below HO.out hb)
    have HB := hid (below_trans HB.out hb)
    clear hb
    go_wp2_with fail
    refine (ReadDecimal_ok MS _ (by omega) HR.out.2).mono ?_
    rintro e w' ⟨he, hb⟩
    obtain rfl : e = .returned (.tuple #[.int .i64 M, .bool true]) := he.trans (num_some h1).symm
    clear he
    have HR := hid (HR.out.below hb)
    have HO := hid (own_below HO.out hb)
    have HB := hid (below_trans HB.out hb)
    clear hb
    go_wp2_with fail
    refine (ReadDecimal_ok AT _ (by omega) HR.out.2).mono ?_
    rintro e w' ⟨he, hb⟩
    obtain rfl : e = .returned (.tuple #[.int .i64 A, .bool true]) := he.trans (num_some h2).symm
    clear he
    have HR := hid (HR.out.below hb)
    have HO := hid (own_below HO.out hb)
    have HB := hid (below_trans HB.out hb)
    clear hb
    have HX := hid (HasC.new w' [.string I, .int .i64 A, .int .i64 M] 39)
    go_wp2_with fail
    refine (PartText_ok I A M _ (by unfold maxLen; omega) (HR.out.2.2.below (below_alloc _ _))).mono ?_
    rintro e w6 ⟨rfl, hb⟩
    have OX := hid (own_below (HO.out.alloc (.cells #[.string I, .int .i64 A, .int .i64 M] 39)) hb)
    have BX := hid (below_trans (HB.out.alloc HB.out.size _) hb)
    have HX6 := hid (HX.out.below hb)
    have k0 := HX6.out.2 0 _ rfl
    have k1 := HX6.out.2 1 _ rfl
    have k2 := HX6.out.2 2 _ rfl
    clear hb HX h1 h2
    have old0 := OX.out.cellAt 0 (by omega)
    have old1 := OX.out.cellAt 1 (by omega)
    have old2 := OX.out.cellAt 2 (by omega)
    have fr0 := OX.out.frozenAt 0
    have fr1 := OX.out.frozenAt 1
    have fr2 := OX.out.frozenAt 2
    simp only [List.getElem?_cons_zero, List.getElem?_cons_succ] at old0 old1 old2
    go_wp2_with fail
    have RO := hid (own_setCells [.string I, .int .i64 A, .int .i64 M] (p := 0) OX.out)
    have z0 := RO.out.cellAt 0 (by omega)
    have z1 := RO.out.cellAt 1 (by omega)
    have z2 := RO.out.cellAt 2 (by omega)
    simp only [setSeg, setCells, Nat.zero_add, List.set_cons_zero, List.set_cons_succ, List.getElem?_cons_zero, List.getElem?_cons_succ] at z0 z1 z2
    exact bodyPost_ret (v := .tuple #[.agg #[.string I, .int .i64 A, .int .i64 M], .bool true]) (by simp [results, Tryd.results22, go_sem, z0, z1, z2]) rfl ⟨by rw [HN.out]; rfl, (((BX.out).setCell (p := ⟨w.heap.size, 0, none⟩) (Nat.le_refl _) _).setCell (p := ⟨w.heap.size, 1, none⟩) (Nat.le_refl _) _).setCell (p := ⟨w.heap.size, 2, none⟩) (Nat.le_refl _) _⟩
  · have HN := hid (fPart_no3 HI.out (by rw [← E1.out]; exact h1) (by rw [← E2.out]; exact h2) (fun h => ht (h.trans (tB_data s))))
    have d1 : ((orNo (partB I A M) (partT I A M)).toList == s.toList) = false := bytes_ne (fun h => ht (by rw [← tB_data (orNo _ _), h, tB_data]))
    clear ht
    go_enter Tryd.func22, Tryd.ntmps22
    go_wp2_with fail
    refine (CutR_ok s ⟨#[32]⟩ _ (by omega) HR.out).mono ?_
    rintro e w' ⟨he, hb⟩
    obtain rfl : e = .returned (.tuple #[.string I, .string R, .bool F]) := he.trans (by rw [HI.out, HRr.out, HF.out] <;> rfl)
    clear he
    have HR := hid (HR.out.below hb)
    have HO := hid (own_below HO.out hb)
    have HB := hid (below_trans HB.out hb)
    clear hb
    go_wp2_with fail
    refine (CutR_ok R ⟨#[64]⟩ _ (by omega) HR.out).mono ?_
    rintro e w' ⟨he, hb⟩
    obtain rfl : e = .returned (.tuple #[.string MS, .string AT, .bool F2]) := he.trans (by rw [HMS.out, HAT.out, HF2.out] <;> rfl)
    clear he
    have HR := hid (HR.out.below hb)
    have HO := hid (own_below HO.out hb)
    have HB := hid (below_trans HB.out hb)
    clear hb
    go_wp2_with fail
    refine (ReadDecimal_ok MS _ (by omega) HR.out.2).mono ?_
    rintro e w' ⟨he, hb⟩
    obtain rfl : e = .returned (.tuple #[.int .i64 M, .bool true]) := he.trans (num_some h1).symm
    clear he
    have HR := hid (HR.out.below hb)
    have HO := hid (own_below HO.out hb)
    have HB := hid (below_trans HB.out hb)
    clear hb
    go_wp2_with fail
    refine (ReadDecimal_ok AT _ (by omega) HR.out.2).mono ?_
    rintro e w' ⟨he, hb⟩
    obtain rfl : e = .returned (.tuple #[.int .i64 A, .bool true]) := he.trans (num_some h2).symm
    clear he
    have HR := hid (HR.out.below hb)
    have HO := hid (own_below HO.out hb)
    have HB := hid (below_trans HB.out hb)
    clear hb
    have HX := hid (HasC.new w' [.string I, .int .i64 A, .int .i64 M] 39)
    go_wp2_with fail
    refine (PartText_ok I A M _ (by unfold maxLen; omega) (HR.out.2.2.below (below_alloc _ _))).mono ?_
    rintro e w6 ⟨rfl, hb⟩
    have OX := hid (own_below (HO.out.alloc (.cells #[.string I, .int .i64 A, .int .i64 M] 39)) hb)
    have BX := hid (below_trans (HB.out.alloc HB.out.size _) hb)
    have HX6 := hid (HX.out.below hb)
    have k0 := HX6.out.2 0 _ rfl
    have k1 := HX6.out.2 1 _ rfl
    have k2 := HX6.out.2 2 _ rfl
    clear hb HX h1 h2
    have old0 := OX.out.cellAt 0 (by omega)
    have old1 := OX.out.cellAt 1 (by omega)
    have old2 := OX.out.cellAt 2 (by omega)
    have fr0 := OX.out.frozenAt 0
    have fr1 := OX.out.frozenAt 1
    have fr2 := OX.out.frozenAt 2
    simp only [List.getElem?_cons_zero, List.getElem?_cons_succ] at old0 old1 old2
    go_wp2_with fail
    have RO := hid (own_setCells [.string ⟨#[]⟩, .int .i64 0, .int .i64 0] (p := 0) OX.out)
    have z0 := RO.out.cellAt 0 (by omega)
    have z1 := RO.out.cellAt 1 (by omega)
    have z2 := RO.out.cellAt 2 (by omega)
    simp only [setSeg, setCells, Nat.zero_add, List.set_cons_zero, List.set_cons_succ, List.getElem?_cons_zero, List.getElem?_cons_succ] at z0 z1 z2
    exact bodyPost_ret (v := .tuple #[.agg #[.string ⟨#[]⟩, .int .i64 0, .int .i64 0], .bool false]) (by simp [results, Tryd.results22, go_sem, z0, z1, z2]) rfl ⟨by rw [HN.out]; rfl, (((BX.out).setCell (p := ⟨w.heap.size, 0, none⟩) (Nat.le_refl _) _).setCell (p := ⟨w.heap.size, 1, none⟩) (Nat.le_refl _) _).setCell (p := ⟨w.heap.size, 2, none⟩) (Nat.le_refl _) _⟩
end Go.Proofs.YtmfadjdpbobfhaaDoor
