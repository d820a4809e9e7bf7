/- ReadPart: the reference. -/
import Derived.Test.YtmfadjdpbobfhaaDoorReadPartM
namespace Go.Proofs.YtmfadjdpbobfhaaDoor
open Go.RowKit
set_option linter.unusedVariables false

theorem len_two {α : Type} {l : List α} (h : l.length = 2) : ∃ a b, l = [a, b] := by
  match l, h with
  | [a, b], _ => exact ⟨a, b, rfl⟩
theorem fPart_len1 {l : List UInt8} (h : (splitC 32 l).length ≠ 2) : fPart l = none := by
  cases hf : fPart l with
  | none => rfl
  | some p =>
    obtain ⟨i, A, M⟩ := p
    obtain ⟨a, m, t, h1, _⟩ := fPart_out hf
    rw [h1] at h
    exact absurd rfl h
theorem fPart_len2 {l a b : List UInt8} (h : splitC 32 l = [a, b]) (h2 : (splitC 64 b).length ≠ 2) : fPart l = none := by
  cases hf : fPart l with
  | none => rfl
  | some p =>
    obtain ⟨i, A, M⟩ := p
    obtain ⟨a', m, t, h3, h4, _⟩ := fPart_out hf
    rw [h] at h3
    injection h3 with _ h3
    injection h3 with h3 _
    subst h3
    rw [h4] at h2
    exact absurd rfl h2
theorem fPart_at {l a b m t : List UInt8} (h1 : splitC 32 l = [a, b]) (h2 : splitC 64 b = [m, t]) : fPart l = match numO m, numO t with
    | some M, some A => if partB (tB a) A M = true then some (tB a, A, M) else none
    | _, _ => none := by
  unfold fPart
  rw [h1]
  simp only
  rw [h2]
  rfl
theorem fPart_a1 {l a b m t : List UInt8} (h1 : splitC 32 l = [a, b]) (h2 : splitC 64 b = [m, t]) (h : numO m = none) : fPart l = none := by rw [fPart_at h1 h2, h]
theorem fPart_a2 {l a b m t : List UInt8} {M : Int} (h1 : splitC 32 l = [a, b]) (h2 : splitC 64 b = [m, t]) (h : numO m = some M) (h3 : numO t = none) : fPart l = none := by rw [fPart_at h1 h2, h, h3]
theorem fPart_a3 {l a b m t : List UInt8} {M A : Int} (h1 : splitC 32 l = [a, b]) (h2 : splitC 64 b = [m, t]) (h : numO m = some M) (h3 : numO t = some A) : fPart l = if partB (tB a) A M = true then some (tB a, A, M) else none := by rw [fPart_at h1 h2, h, h3]
set_option maxHeartbeats 800000 in
set_option maxRecDepth 100000 in
theorem specReadPart_two (s : ByteArray) (a b m t : List UInt8) (w : World) (hs : s.size ≤ 1048576) (hab : splitC 32 s.data.toList = [a, b]) (hmt : splitC 64 b = [m, t]) :
    Calls Tryd.prog 21 #[.string s] w fun e w' => e = .returned (partRV (fPart s.data.toList)) ∧ Below w.heap.size w w' := by
  have HO := hid (World.ownsRow_lit (e := 39) (size := 3) w #[.string ⟨#[]⟩, .int .i64 0, .int .i64 0] 1 (Nat.le_refl _) (by unfold maxLen; omega) rfl)
  have HB := hid (below_alloc w (.cells #[.string ⟨#[]⟩, .int .i64 0, .int .i64 0] 39))
  have HAB := hid hab
  have HMT := hid hmt
  by_cases hm : numO m = none
  · have HN := hid (fPart_a1 hab hmt hm)
    obtain ⟨n2, b2, h2⟩ : ∃ n2 b2, (Ending.returned (.tuple #[.int .i64 n2, .bool b2])) = .returned (.tuple #[.int .i64 ((numO t).getD 0), .bool (numO t).isSome]) := ⟨_, _, rfl⟩
    clear hab hmt
    go_enter Tryd.func21, Tryd.ntmps21
    go_wp2_with fail
    refine (l01Split_ok s 32 _ hs).mono ?_
    rintro e w1 ⟨hp, hb⟩
    rw [HAB.out] at hp
    obtain ⟨A1, c1, rfl, hS⟩ := hp
    obtain ⟨bk, o, rfl, hlt, hc⟩ := hS (by simp)
    have p0 : w1.cell? ⟨bk, o, none⟩ = some (.string (tB a)) := hc 0 a rfl
    have p1 : w1.cell? ⟨bk, o + 1, none⟩ = some (.string (tB b)) := hc 1 b rfl
    have HO := hid (own_below HO.out hb)
    have HB := hid (below_trans HB.out hb)
    have e2 : [a, b].length = 2 := rfl
    have zb : (tB b).size ≤ 1048576 := by
      have := (split_two HAB.out).1
      have h3 := lenL s
      rw [this, List.length_append, List.length_cons] at h3
      have h4 := lenL (tB b)
      rw [data_tB] at h4
      omega
    clear hS hb hc
    go_wp2_with fail
    refine (l01Split_ok (tB b) 64 _ zb).mono ?_
    rintro e w2 ⟨hp, hb⟩
    rw [data_tB, HMT.out] at hp
    obtain ⟨A2, c2, rfl, hS⟩ := hp
    obtain ⟨bj, oj, rfl, hlt2, hc⟩ := hS (by simp)
    have r0 : w2.cell? ⟨bj, oj, none⟩ = some (.string (tB m)) := hc 0 m rfl
    have r1 : w2.cell? ⟨bj, oj + 1, none⟩ = some (.string (tB t)) := hc 1 t rfl
    have p0 := (hb.cell (p := ⟨bk, o, none⟩) hlt).trans p0
    have e3 : [m, t].length = 2 := rfl
    have zm : (tB m).size ≤ 1048576 ∧ (tB t).size ≤ 1048576 := by
      have h6 := congrArg List.length (split_two HMT.out).1
      rw [List.length_append, List.length_cons] at h6
      have h3 := lenL (tB b)
      rw [data_tB] at h3
      have h4 := lenL (tB m)
      have h5 := lenL (tB t)
      rw [data_tB] at h4 h5
      omega
    have HO := hid (own_below HO.out hb)
    have HB := hid (below_trans HB.out hb)
    clear hS hb hc
    go_wp2_with fail
    refine (l01Number_ok (tB m) _ zm.1).mono ?_
    rintro e w' ⟨he, rfl⟩
    obtain rfl : e = .returned (.tuple #[.int .i64 0, .bool false]) := he.trans (num_none hm).symm
    clear he
    go_wp2_with fail
    refine (l01Number_ok (tB t) _ zm.2).mono ?_
    rintro e w' ⟨he, rfl⟩
    obtain rfl : e = .returned (.tuple #[.int .i64 n2, .bool b2]) := he.trans h2.symm
    clear he h2
    have OX := hid (HO.out.alloc (.cells #[.string (tB a), .int .i64 n2, .int .i64 0] 39))
    have old0 := OX.out.cellAt 0 (by omega)
    have old1 := OX.out.cellAt 1 (by omega)
    have old2 := OX.out.cellAt 2 (by omega)
    have fr0 := OX.out.frozenAt 0
    have fr1 := OX.out.frozenAt 1
    have fr2 := OX.out.frozenAt 2
    simp only [List.getElem?_cons_zero, List.getElem?_cons_succ] at old0 old1 old2
    go_wp2_with fail
    have RO := hid (own_setCells [.string ⟨#[]⟩, .int .i64 0, .int .i64 0] (p := 0) OX.out)
    have z0 := RO.out.cellAt 0 (by omega)
    have z1 := RO.out.cellAt 1 (by omega)
    have z2 := RO.out.cellAt 2 (by omega)
    simp only [setSeg, setCells, Nat.zero_add, List.set_cons_zero, List.set_cons_succ, List.getElem?_cons_zero, List.getElem?_cons_succ] at z0 z1 z2
    exact bodyPost_ret (v := .tuple #[.agg #[.string ⟨#[]⟩, .int .i64 0, .int .i64 0], .bool false]) (by simp [results, Tryd.results21, go_sem, z0, z1, z2]) rfl ⟨by rw [HN.out]; rfl, (((HB.out.alloc HB.out.size _).setCell (p := ⟨w.heap.size, 0, none⟩) (Nat.le_refl _) _).setCell (p := ⟨w.heap.size, 1, none⟩) (Nat.le_refl _) _).setCell (p := ⟨w.heap.size, 2, none⟩) (Nat.le_refl _) _⟩
  obtain ⟨M, hm⟩ : ∃ M, numO m = some M := Option.ne_none_iff_exists'.1 hm
  by_cases ht : numO t = none
  · have HN := hid (fPart_a2 hab hmt hm ht)
    clear hab hmt
    go_enter Tryd.func21, Tryd.ntmps21
    go_wp2_with fail
    refine (l01Split_ok s 32 _ hs).mono ?_
    rintro e w1 ⟨hp, hb⟩
    rw [HAB.out] at hp
    obtain ⟨A1, c1, rfl, hS⟩ := hp
    obtain ⟨bk, o, rfl, hlt, hc⟩ := hS (by simp)
    have p0 : w1.cell? ⟨bk, o, none⟩ = some (.string (tB a)) := hc 0 a rfl
    have p1 : w1.cell? ⟨bk, o + 1, none⟩ = some (.string (tB b)) := hc 1 b rfl
    have HO := hid (own_below HO.out hb)
    have HB := hid (below_trans HB.out hb)
    have e2 : [a, b].length = 2 := rfl
    have zb : (tB b).size ≤ 1048576 := by
      have := (split_two HAB.out).1
      have h3 := lenL s
      rw [this, List.length_append, List.length_cons] at h3
      have h4 := lenL (tB b)
      rw [data_tB] at h4
      omega
    clear hS hb hc
    go_wp2_with fail
    refine (l01Split_ok (tB b) 64 _ zb).mono ?_
    rintro e w2 ⟨hp, hb⟩
    rw [data_tB, HMT.out] at hp
    obtain ⟨A2, c2, rfl, hS⟩ := hp
    obtain ⟨bj, oj, rfl, hlt2, hc⟩ := hS (by simp)
    have r0 : w2.cell? ⟨bj, oj, none⟩ = some (.string (tB m)) := hc 0 m rfl
    have r1 : w2.cell? ⟨bj, oj + 1, none⟩ = some (.string (tB t)) := hc 1 t rfl
    have p0 := (hb.cell (p := ⟨bk, o, none⟩) hlt).trans p0
    have e3 : [m, t].length = 2 := rfl
    have zm : (tB m).size ≤ 1048576 ∧ (tB t).size ≤ 1048576 := by
      have h6 := congrArg List.length (split_two HMT.out).1
      rw [List.length_append, List.length_cons] at h6
      have h3 := lenL (tB b)
      rw [data_tB] at h3
      have h4 := lenL (tB m)
      have h5 := lenL (tB t)
      rw [data_tB] at h4 h5
      omega
    have HO := hid (own_below HO.out hb)
    have HB := hid (below_trans HB.out hb)
    clear hS hb hc
    go_wp2_with fail
    refine (l01Number_ok (tB m) _ zm.1).mono ?_
    rintro e w' ⟨he, rfl⟩
    obtain rfl : e = .returned (.tuple #[.int .i64 M, .bool true]) := he.trans (num_some hm).symm
    clear he
    go_wp2_with fail
    refine (l01Number_ok (tB t) _ zm.2).mono ?_
    rintro e w' ⟨he, rfl⟩
    obtain rfl : e = .returned (.tuple #[.int .i64 0, .bool false]) := he.trans (num_none ht).symm
    clear he
    have OX := hid (HO.out.alloc (.cells #[.string (tB a), .int .i64 0, .int .i64 M] 39))
    have old0 := OX.out.cellAt 0 (by omega)
    have old1 := OX.out.cellAt 1 (by omega)
    have old2 := OX.out.cellAt 2 (by omega)
    have fr0 := OX.out.frozenAt 0
    have fr1 := OX.out.frozenAt 1
    have fr2 := OX.out.frozenAt 2
    simp only [List.getElem?_cons_zero, List.getElem?_cons_succ] at old0 old1 old2
    go_wp2_with fail
    have RO := hid (own_setCells [.string ⟨#[]⟩, .int .i64 0, .int .i64 0] (p := 0) OX.out)
    have z0 := RO.out.cellAt 0 (by omega)
    have z1 := RO.out.cellAt 1 (by omega)
    have z2 := RO.out.cellAt 2 (by omega)
    simp only [setSeg, setCells, Nat.zero_add, List.set_cons_zero, List.set_cons_succ, List.getElem?_cons_zero, List.getElem?_cons_succ] at z0 z1 z2
    exact bodyPost_ret (v := .tuple #[.agg #[.string ⟨#[]⟩, .int .i64 0, .int .i64 0], .bool false]) (by simp [results, Tryd.results21, go_sem, z0, z1, z2]) rfl ⟨by rw [HN.out]; rfl, (((HB.out.alloc HB.out.size _).setCell (p := ⟨w.heap.size, 0, none⟩) (Nat.le_refl _) _).setCell (p := ⟨w.heap.size, 1, none⟩) (Nat.le_refl _) _).setCell (p := ⟨w.heap.size, 2, none⟩) (Nat.le_refl _) _⟩
  obtain ⟨A, ht⟩ : ∃ A, numO t = some A := Option.ne_none_iff_exists'.1 ht
  cases hv : partB (tB a) A M
  · have HN := hid (show fPart s.data.toList = none by rw [fPart_a3 hab hmt hm ht, if_neg (by rw [hv]; decide)])
    clear hab hmt
    go_enter Tryd.func21, Tryd.ntmps21
    go_wp2_with fail
    refine (l01Split_ok s 32 _ hs).mono ?_
    rintro e w1 ⟨hp, hb⟩
    rw [HAB.out] at hp
    obtain ⟨A1, c1, rfl, hS⟩ := hp
    obtain ⟨bk, o, rfl, hlt, hc⟩ := hS (by simp)
    have p0 : w1.cell? ⟨bk, o, none⟩ = some (.string (tB a)) := hc 0 a rfl
    have p1 : w1.cell? ⟨bk, o + 1, none⟩ = some (.string (tB b)) := hc 1 b rfl
    have HO := hid (own_below HO.out hb)
    have HB := hid (below_trans HB.out hb)
    have e2 : [a, b].length = 2 := rfl
    have zb : (tB b).size ≤ 1048576 := by
      have := (split_two HAB.out).1
      have h3 := lenL s
      rw [this, List.length_append, List.length_cons] at h3
      have h4 := lenL (tB b)
      rw [data_tB] at h4
      omega
    clear hS hb hc
    go_wp2_with fail
    refine (l01Split_ok (tB b) 64 _ zb).mono ?_
    rintro e w2 ⟨hp, hb⟩
    rw [data_tB, HMT.out] at hp
    obtain ⟨A2, c2, rfl, hS⟩ := hp
    obtain ⟨bj, oj, rfl, hlt2, hc⟩ := hS (by simp)
    have r0 : w2.cell? ⟨bj, oj, none⟩ = some (.string (tB m)) := hc 0 m rfl
    have r1 : w2.cell? ⟨bj, oj + 1, none⟩ = some (.string (tB t)) := hc 1 t rfl
    have p0 := (hb.cell (p := ⟨bk, o, none⟩) hlt).trans p0
    have e3 : [m, t].length = 2 := rfl
    have zm : (tB m).size ≤ 1048576 ∧ (tB t).size ≤ 1048576 := by
      have h6 := congrArg List.length (split_two HMT.out).1
      rw [List.length_append, List.length_cons] at h6
      have h3 := lenL (tB b)
      rw [data_tB] at h3
      have h4 := lenL (tB m)
      have h5 := lenL (tB t)
      rw [data_tB] at h4 h5
      omega
    have HO := hid (own_below HO.out hb)
    have HB := hid (below_trans HB.out hb)
    clear hS hb hc
    go_wp2_with fail
    refine (l01Number_ok (tB m) _ zm.1).mono ?_
    rintro e w' ⟨he, rfl⟩
    obtain rfl : e = .returned (.tuple #[.int .i64 M, .bool true]) := he.trans (num_some hm).symm
    clear he
    go_wp2_with fail
    refine (l01Number_ok (tB t) _ zm.2).mono ?_
    rintro e w' ⟨he, rfl⟩
    obtain rfl : e = .returned (.tuple #[.int .i64 A, .bool true]) := he.trans (num_some ht).symm
    clear he
    have OX := hid (HO.out.alloc (.cells #[.string (tB a), .int .i64 A, .int .i64 M] 39))
    have old0 := OX.out.cellAt 0 (by omega)
    have old1 := OX.out.cellAt 1 (by omega)
    have old2 := OX.out.cellAt 2 (by omega)
    have fr0 := OX.out.frozenAt 0
    have fr1 := OX.out.frozenAt 1
    have fr2 := OX.out.frozenAt 2
    simp only [List.getElem?_cons_zero, List.getElem?_cons_succ] at old0 old1 old2
    have HX := hid (HasC.new w2 [.string (tB a), .int .i64 A, .int .i64 M] 39)
    have k0 := HX.out.2 0 _ rfl
    have k1 := HX.out.2 1 _ rfl
    have k2 := HX.out.2 2 _ rfl
    have za : (tB a).size ≤ maxLen := by
      have := (split_two HAB.out).1
      have h3 := lenL s
      rw [this, List.length_append, List.length_cons] at h3
      have h4 := lenL (tB a)
      rw [data_tB] at h4
      unfold maxLen
      omega
    go_wp2_with (go_at_call 72; refine (l11One_ok (tB a) A M _ _ _ za k0 k1 k2).mono ?_; rintro e w' ⟨he, rfl⟩; obtain rfl : e = .returned (.bool false) := he.trans (by rw [hv]); clear he)
    have RO := hid (own_setCells [.string ⟨#[]⟩, .int .i64 0, .int .i64 0] (p := 0) OX.out)
    have z0 := RO.out.cellAt 0 (by omega)
    have z1 := RO.out.cellAt 1 (by omega)
    have z2 := RO.out.cellAt 2 (by omega)
    simp only [setSeg, setCells, Nat.zero_add, List.set_cons_zero, List.set_cons_succ, List.getElem?_cons_zero, List.getElem?_cons_succ] at z0 z1 z2
    exact bodyPost_ret (v := .tuple #[.agg #[.string ⟨#[]⟩, .int .i64 0, .int .i64 0], .bool false]) (by simp [results, Tryd.results21, go_sem, z0, z1, z2]) rfl ⟨by rw [HN.out]; rfl, (((HB.out.alloc HB.out.size _).setCell (p := ⟨w.heap.size, 0, none⟩) (Nat.le_refl _) _).setCell (p := ⟨w.heap.size, 1, none⟩) (Nat.le_refl _) _).setCell (p := ⟨w.heap.size, 2, none⟩) (Nat.le_refl _) _⟩
  · have HN := hid (show fPart s.data.toList = some (tB a, A, M) by rw [fPart_a3 hab hmt hm ht, if_pos hv])
    clear hab hmt
    go_enter Tryd.func21, Tryd.ntmps21
    go_wp2_with fail
    refine (l01Split_ok s 32 _ hs).mono ?_
    rintro e w1 ⟨hp, hb⟩
    rw [HAB.out] at hp
    obtain ⟨A1, c1, rfl, hS⟩ := hp
    obtain ⟨bk, o, rfl, hlt, hc⟩ := hS (by simp)
    have p0 : w1.cell? ⟨bk, o, none⟩ = some (.string (tB a)) := hc 0 a rfl
    have p1 : w1.cell? ⟨bk, o + 1, none⟩ = some (.string (tB b)) := hc 1 b rfl
    have HO := hid (own_below HO.out hb)
    have HB := hid (below_trans HB.out hb)
    have e2 : [a, b].length = 2 := rfl
    have zb : (tB b).size ≤ 1048576 := by
      have := (split_two HAB.out).1
      have h3 := lenL s
      rw [this, List.length_append, List.length_cons] at h3
      have h4 := lenL (tB b)
      rw [data_tB] at h4
      omega
    clear hS hb hc
    go_wp2_with fail
    refine (l01Split_ok (tB b) 64 _ zb).mono ?_
    rintro e w2 ⟨hp, hb⟩
    rw [data_tB, HMT.out] at hp
    obtain ⟨A2, c2, rfl, hS⟩ := hp
    obtain ⟨bj, oj, rfl, hlt2, hc⟩ := hS (by simp)
    have r0 : w2.cell? ⟨bj, oj, none⟩ = some (.string (tB m)) := hc 0 m rfl
    have r1 : w2.cell? ⟨bj, oj + 1, none⟩ = some (.string (tB t)) := hc 1 t rfl
    have p0 := (hb.cell (p := ⟨bk, o, none⟩) hlt).trans p0
    have e3 : [m, t].length = 2 := rfl
    have zm : (tB m).size ≤ 1048576 ∧ (tB t).size ≤ 1048576 := by
      have h6 := congrArg List.length (split_two HMT.out).1
      rw [List.length_append, List.length_cons] at h6
      have h3 := lenL (tB b)
      rw [data_tB] at h3
      have h4 := lenL (tB m)
      have h5 := lenL (tB t)
      rw [data_tB] at h4 h5
      omega
    have HO := hid (own_below HO.out hb)
    have HB := hid (below_trans HB.out hb)
    clear hS hb hc
    go_wp2_with fail
    refine (l01Number_ok (tB m) _ zm.1).mono ?_
    rintro e w' ⟨he, rfl⟩
    obtain rfl : e = .returned (.tuple #[.int .i64 M, .bool true]) := he.trans (num_some hm).symm
    clear he
    go_wp2_with fail
    refine (l01Number_ok (tB t) _ zm.2).mono ?_
    rintro e w' ⟨he, rfl⟩
    obtain rfl : e = .returned (.tuple #[.int .i64 A, .bool true]) := he.trans (num_some ht).symm
    clear he
    have OX := hid (HO.out.alloc (.cells #[.string (tB a), .int .i64 A, .int .i64 M] 39))
    have old0 := OX.out.cellAt 0 (by omega)
    have old1 := OX.out.cellAt 1 (by omega)
    have old2 := OX.out.cellAt 2 (by omega)
    have fr0 := OX.out.frozenAt 0
    have fr1 := OX.out.frozenAt 1
    have fr2 := OX.out.frozenAt 2
    simp only [List.getElem?_cons_zero, List.getElem?_cons_succ] at old0 old1 old2
    have HX := hid (HasC.new w2 [.string (tB a), .int .i64 A, .int .i64 M] 39)
    have k0 := HX.out.2 0 _ rfl
    have k1 := HX.out.2 1 _ rfl
    have k2 := HX.out.2 2 _ rfl
    have za : (tB a).size ≤ maxLen := by
      have := (split_two HAB.out).1
      have h3 := lenL s
      rw [this, List.length_append, List.length_cons] at h3
      have h4 := lenL (tB a)
      rw [data_tB] at h4
      unfold maxLen
      omega
    go_wp2_with (go_at_call 72; refine (l11One_ok (tB a) A M _ _ _ za k0 k1 k2).mono ?_; rintro e w' ⟨he, rfl⟩; obtain rfl : e = .returned (.bool true) := he.trans (by rw [hv]); clear he)
    have RO := hid (own_setCells [.string (tB a), .int .i64 A, .int .i64 M] (p := 0) OX.out)
    have z0 := RO.out.cellAt 0 (by omega)
    have z1 := RO.out.cellAt 1 (by omega)
    have z2 := RO.out.cellAt 2 (by omega)
    simp only [setSeg, setCells, Nat.zero_add, List.set_cons_zero, List.set_cons_succ, List.getElem?_cons_zero, List.getElem?_cons_succ] at z0 z1 z2
    exact bodyPost_ret (v := .tuple #[.agg #[.string (tB a), .int .i64 A, .int .i64 M], .bool true]) (by simp [results, Tryd.results21, go_sem, z0, z1, z2]) rfl ⟨by rw [HN.out]; rfl, (((HB.out.alloc HB.out.size _).setCell (p := ⟨w.heap.size, 0, none⟩) (Nat.le_refl _) _).setCell (p := ⟨w.heap.size, 1, none⟩) (Nat.le_refl _) _).setCell (p := ⟨w.heap.size, 2, none⟩) (Nat.le_refl _) _⟩

set_option maxHeartbeats 400000 in
set_option maxRecDepth 100000 in
theorem specReadPart_ok (s : ByteArray) (w : World) (hs : s.size ≤ 1048576) :
    Calls Tryd.prog 21 #[.string s] w fun e w' => e = .returned (partRV (fPart s.data.toList)) ∧ Below w.heap.size w w' := by
  have HO := hid (World.ownsRow_lit (e := 39) (size := 3) w #[.string ⟨#[]⟩, .int .i64 0, .int .i64 0] 1 (Nat.le_refl _) (by unfold maxLen; omega) rfl)
  have HB := hid (below_alloc w (.cells #[.string ⟨#[]⟩, .int .i64 0, .int .i64 0] 39))
  by_cases h1 : (splitC 32 s.data.toList).length = 2
  · obtain ⟨a, b, hab⟩ := len_two h1
    have HAB := hid hab
    clear h1
    by_cases h2 : (splitC 64 b).length = 2
    · obtain ⟨m, t, hmt⟩ := len_two h2
      clear h2
      exact specReadPart_two s a b m t w hs HAB.out hmt
    have HN := hid (fPart_len2 hab h2)
    have d1 : (((splitC 64 (tB b).data.toList).length : Int) == 2) = false := by rw [data_tB, beq_eq_false_iff_ne]; omega
    clear hab
    go_enter Tryd.func21, Tryd.ntmps21
    go_wp2_with fail
    refine (l01Split_ok s 32 _ hs).mono ?_
    rintro e w1 ⟨hp, hb⟩
    rw [HAB.out] at hp
    obtain ⟨A1, c1, rfl, hS⟩ := hp
    obtain ⟨bk, o, rfl, hlt, hc⟩ := hS (by simp)
    have p0 : w1.cell? ⟨bk, o, none⟩ = some (.string (tB a)) := hc 0 a rfl
    have p1 : w1.cell? ⟨bk, o + 1, none⟩ = some (.string (tB b)) := hc 1 b rfl
    have HO := hid (own_below HO.out hb)
    have HB := hid (below_trans HB.out hb)
    have e2 : [a, b].length = 2 := rfl
    have zb : (tB b).size ≤ 1048576 := by
      have := (split_two HAB.out).1
      have h3 := lenL s
      rw [this, List.length_append, List.length_cons] at h3
      have h4 := lenL (tB b)
      rw [data_tB] at h4
      omega
    clear hS hb hc
    go_wp2_with fail
    refine (l01Split_ok (tB b) 64 _ zb).mono ?_
    rintro e w2 ⟨⟨A2, c2, rfl, hS⟩, hb⟩
    have HS := hid hS
    have HO := hid (own_below HO.out hb)
    have HB := hid (below_trans HB.out hb)
    clear hS hb
    have old0 := HO.out.cellAt 0 (by omega)
    have old1 := HO.out.cellAt 1 (by omega)
    have old2 := HO.out.cellAt 2 (by omega)
    have fr0 := HO.out.frozenAt 0
    have fr1 := HO.out.frozenAt 1
    have fr2 := HO.out.frozenAt 2
    simp only [List.getElem?_cons_zero, List.getElem?_cons_succ] at old0 old1 old2
    go_wp2_with fail
    have RO := hid (own_setCells [.string ⟨#[]⟩, .int .i64 0, .int .i64 0] (p := 0) HO.out)
    have z0 := RO.out.cellAt 0 (by omega)
    have z1 := RO.out.cellAt 1 (by omega)
    have z2 := RO.out.cellAt 2 (by omega)
    simp only [setSeg, setCells, Nat.zero_add, List.set_cons_zero, List.set_cons_succ, List.getElem?_cons_zero, List.getElem?_cons_succ] at z0 z1 z2
    exact bodyPost_ret (v := .tuple #[.agg #[.string ⟨#[]⟩, .int .i64 0, .int .i64 0], .bool false]) (by simp [results, Tryd.results21, go_sem, z0, z1, z2]) rfl ⟨by rw [HN.out]; rfl, (((HB.out).setCell (p := ⟨w.heap.size, 0, none⟩) (Nat.le_refl _) _).setCell (p := ⟨w.heap.size, 1, none⟩) (Nat.le_refl _) _).setCell (p := ⟨w.heap.size, 2, none⟩) (Nat.le_refl _) _⟩
  · have HN := hid (fPart_len1 h1)
    have d1 : (((splitC 32 s.data.toList).length : Int) == 2) = false := by rw [beq_eq_false_iff_ne]; omega
    go_enter Tryd.func21, Tryd.ntmps21
    go_wp2_with fail
    refine (l01Split_ok s 32 _ hs).mono ?_
    rintro e w1 ⟨⟨A1, c1, rfl, hS⟩, hb⟩
    have HS := hid hS
    have HO := hid (own_below HO.out hb)
    have HB := hid (below_trans HB.out hb)
    clear hS hb
    have old0 := HO.out.cellAt 0 (by omega)
    have old1 := HO.out.cellAt 1 (by omega)
    have old2 := HO.out.cellAt 2 (by omega)
    have fr0 := HO.out.frozenAt 0
    have fr1 := HO.out.frozenAt 1
    have fr2 := HO.out.frozenAt 2
    simp only [List.getElem?_cons_zero, List.getElem?_cons_succ] at old0 old1 old2
    go_wp2_with fail
    have RO := hid (own_setCells [.string ⟨#[]⟩, .int .i64 0, .int .i64 0] (p := 0) HO.out)
    have z0 := RO.out.cellAt 0 (by omega)
    have z1 := RO.out.cellAt 1 (by omega)
    have z2 := RO.out.cellAt 2 (by omega)
    simp only [setSeg, setCells, Nat.zero_add, List.set_cons_zero, List.set_cons_succ, List.getElem?_cons_zero, List.getElem?_cons_succ] at z0 z1 z2
    exact bodyPost_ret (v := .tuple #[.agg #[.string ⟨#[]⟩, .int .i64 0, .int .i64 0], .bool false]) (by simp [results, Tryd.results21, go_sem, z0, z1, z2]) rfl ⟨by rw [HN.out]; rfl, (((HB.out).setCell (p := ⟨w.heap.size, 0, none⟩) (Nat.le_refl _) _).setCell (p := ⟨w.heap.size, 1, none⟩) (Nat.le_refl _) _).setCell (p := ⟨w.heap.size, 2, none⟩) (Nat.le_refl _) _⟩
end Go.Proofs.YtmfadjdpbobfhaaDoor
