/- Visit: its text read, pure. -/
import Derived.Test.YtmfadjdpbobfhaaDoorWordsM
import Derived.Test.YtmfadjdpbobfhaaDoorVisitO
import Derived.Test.YtmfadjdpbobfhaaDoorVisit
namespace Go.Proofs.YtmfadjdpbobfhaaDoor
open Go.RowKit
set_option linter.unusedVariables false

def kindOf (c : List UInt8) : Int := if c = (kindT 4).data.toList then 4 else if c = (kindT 3).data.toList then 3 else if c = (kindT 2).data.toList then 2 else if c = (kindT 1).data.toList then 1 else 0
def fVisit (l : List UInt8) : Option (Int × ByteArray × Int × Int) := match splitC 32 l with
  | [a, b, c, d] => match numO a, numO d with
    | some M, some A => if visitB M (tB b) (kindOf c) A = true then some (M, tB b, kindOf c, A) else none
    | _, _ => none
  | _ => none
def visitRV (o : Option (Int × ByteArray × Int × Int)) : Value := match o with
  | some (d, n, k, a) => .tuple #[.agg #[.int .i64 d, .string n, .int .i64 k, .int .i64 a], .bool true]
  | none => .tuple #[.agg #[.int .i64 0, .string ⟨#[]⟩, .int .i64 0, .int .i64 0], .bool false]
theorem kind_cases {k : Int} (h0 : 1 ≤ k) (h1 : k ≤ 4) : k = 1 ∨ k = 2 ∨ k = 3 ∨ k = 4 := by omega
theorem kind_of {k : Int} (h0 : 1 ≤ k) (h1 : k ≤ 4) : kindOf (kindT k).data.toList = k := by
  rcases kind_cases h0 h1 with rfl | rfl | rfl | rfl <;> decide
theorem kind_is {c : List UInt8} (h : 1 ≤ kindOf c) : c = (kindT (kindOf c)).data.toList := by
  unfold kindOf at h ⊢
  split
  · assumption
  · split
    · assumption
    · split
      · assumption
      · split
        · assumption
        · simp_all
theorem kind_free {k : Int} (h0 : 1 ≤ k) (h1 : k ≤ 4) : (32 : UInt8) ∉ (kindT k).data.toList ∧ (kindT k).data.toList.isEmpty = false := by
  rcases kind_cases h0 h1 with rfl | rfl | rfl | rfl <;> decide
theorem visitT_list (D : Int) (n : ByteArray) (k A : Int) : (visitT D n k A).data.toList = Lib.itoa D ++ 32 :: (n.data.toList ++ 32 :: ((kindT k).data.toList ++ 32 :: Lib.itoa A)) := by
  unfold visitT
  simp only [ByteArray.data_append, Array.toList_append, dec_data]
  simp
theorem visit_parts {D : Int} {n : ByteArray} {k A : Int} (h : visitB D n k A = true) : (32 : UInt8) ∉ Lib.itoa D ∧ (32 : UInt8) ∉ n.data.toList ∧ (32 : UInt8) ∉ (kindT k).data.toList ∧ (32 : UInt8) ∉ Lib.itoa A ∧ numO (Lib.itoa D) = some D ∧ numO (Lib.itoa A) = some A ∧ 1 ≤ k ∧ k ≤ 4 ∧ nameB n = true := by
  have h' := h
  simp only [visitB, Bool.and_eq_true, inB_iff] at h'
  have n1 : nameB n = true := by simp only [h']
  have k1 : 1 ≤ k := h'.2.2.1.1
  have k2 : k ≤ 4 := h'.2.2.1.2
  have hb := visitB_bd h
  exact ⟨dg_free (by decide) (by decide), name_free n1 (by decide) (by decide), (kind_free k1 k2).1, dg_free (by decide) (by decide), numO_itoa (by omega), numO_itoa (by omega), k1, k2, n1⟩
theorem fVisit_at {l a b c d : List UInt8} (h1 : splitC 32 l = [a, b, c, d]) : fVisit l = match numO a, numO d with
    | some M, some A => if visitB M (tB b) (kindOf c) A = true then some (M, tB b, kindOf c, A) else none
    | _, _ => none := by
  unfold fVisit
  rw [h1]
theorem fVisit_some {l : List UInt8} {D : Int} {n : ByteArray} {k A : Int} (h : fVisit l = some (D, n, k, A)) : visitB D n k A = true ∧ l = (visitT D n k A).data.toList := by
  unfold fVisit at h
  split at h
  · rename_i a b c d h1
    split at h
    · rename_i M A h3 h4
      split at h
      · rename_i h5
        simp only [Option.some.injEq, Prod.mk.injEq] at h
        obtain ⟨rfl, rfl, rfl, rfl⟩ := h
        obtain ⟨e1, -, -, -⟩ := split_four h1
        obtain ⟨-, -, -, -, -, -, k1, -⟩ := visit_parts h5
        refine ⟨h5, ?_⟩
        rw [visitT_list, (numO_some h3).1, (numO_some h4).1, data_tB, ← kind_is k1]
        exact e1
      · cases h
    · cases h
  · cases h
theorem fVisit_back {D : Int} {n : ByteArray} {k A : Int} (h : visitB D n k A = true) : fVisit (visitT D n k A).data.toList = some (D, n, k, A) := by
  obtain ⟨p1, p2, p3, p4, p5, p6, p7, p8, p9⟩ := visit_parts h
  rw [visitT_list, fVisit_at (four_split p1 p2 p3 p4)]
  simp only [p5, p6, tB_data, kind_of p7 p8, h, if_true]
theorem visit_words {D : Int} {n : ByteArray} {k A : Int} (h : visitB D n k A = true) : wordsOf (visitT D n k A).data.toList = [Lib.itoa D, n.data.toList, (kindT k).data.toList, Lib.itoa A] := by
  obtain ⟨p1, p2, p3, p4, -, -, p7, p8, p9⟩ := visit_parts h
  rw [visitT_list, wordsOf, four_split p1 p2 p3 p4]
  simp [List.filter, itoa_ne, name_ne p9, (kind_free p7 p8).2]
theorem fVisit_cut {l a b c d : List UInt8} {D : Int} {n : ByteArray} {k A : Int} (hw : wordsOf l = [a, b, c, d]) (h : fVisit l = some (D, n, k, A)) : numO a = some D ∧ numO d = some A ∧ n = tB b ∧ 1 ≤ k ∧ k ≤ 4 ∧ orNo (visitB D n k A) (visitT D n k A) = tB l := by
  obtain ⟨h1, h2⟩ := fVisit_some h
  obtain ⟨p1, p2, p3, p4, p5, p6, p7, p8, p9⟩ := visit_parts h1
  have e := visit_words h1
  rw [← h2, hw] at e
  simp only [List.cons.injEq, and_true] at e
  obtain ⟨rfl, rfl, rfl, rfl⟩ := e
  refine ⟨p5, p6, (tB_data _).symm, p7, p8, ?_⟩
  rw [orNo, if_pos h1]
  exact tB_eq h2.symm
theorem fVisit_no0 {l : List UInt8} (h : (wordsOf l).length ≠ 4) : fVisit l = none := by
  cases hf : fVisit l with
  | none => rfl
  | some p =>
    obtain ⟨D, n, k, A⟩ := p
    obtain ⟨h1, h2⟩ := fVisit_some hf
    rw [h2, visit_words h1] at h
    exact absurd rfl h
theorem fVisit_no1 {l a b c d : List UInt8} (hw : wordsOf l = [a, b, c, d]) (h : numO a = none) : fVisit l = none := by
  cases hf : fVisit l with
  | none => rfl
  | some p =>
    obtain ⟨D, n, k, A⟩ := p
    have := (fVisit_cut hw hf).1
    rw [h] at this
    cases this
theorem fVisit_no2 {l a b c d : List UInt8} (hw : wordsOf l = [a, b, c, d]) (h : numO d = none) : fVisit l = none := by
  cases hf : fVisit l with
  | none => rfl
  | some p =>
    obtain ⟨D, n, k, A⟩ := p
    have := (fVisit_cut hw hf).2.1
    rw [h] at this
    cases this
theorem fVisit_no3 {l a b c d : List UInt8} {M A : Int} (hw : wordsOf l = [a, b, c, d]) (hM : numO a = some M) (hA : numO d = some A) (ht : ∀ k : Int, 1 ≤ k → k ≤ 4 → orNo (visitB M (tB b) k A) (visitT M (tB b) k A) ≠ tB l) : fVisit l = none := by
  cases hf : fVisit l with
  | none => rfl
  | some p =>
    obtain ⟨D, n, k, A'⟩ := p
    obtain ⟨e1, e2, e3, e4, e5, e6⟩ := fVisit_cut hw hf
    rw [hM] at e1
    rw [hA] at e2
    injection e1 with e1
    injection e2 with e2
    subst e1 e2
    rw [e3] at e6
    exact absurd e6 (ht k e4 e5)
theorem fVisit_of {l a b c d : List UInt8} {M A k : Int} {I : ByteArray} (hw : wordsOf l = [a, b, c, d]) (ht : orNo (visitB M I k A) (visitT M I k A) = tB l) : fVisit l = some (M, I, k, A) := by
  cases hp : visitB M I k A with
  | false =>
    rw [hp, orNo, if_neg (by decide)] at ht
    have hl : l = [] := by
      have := congrArg (fun b : ByteArray => b.data.toList) ht
      simpa [tB] using this.symm
    rw [hl, words_nil] at hw
    cases hw
  | true =>
    rw [hp, orNo, if_pos rfl] at ht
    have hl : l = (visitT M I k A).data.toList := by
      have := congrArg (fun b : ByteArray => b.data.toList) ht
      rw [data_tB] at this
      exact this.symm
    rw [hl]
    exact fVisit_back hp
theorem fVisit_len1 {l : List UInt8} (h : (splitC 32 l).length ≠ 4) : fVisit l = none := by
  cases hf : fVisit l with
  | none => rfl
  | some p =>
    obtain ⟨D, n, k, A⟩ := p
    obtain ⟨h1, h2⟩ := fVisit_some hf
    obtain ⟨p1, p2, p3, p4, -⟩ := visit_parts h1
    rw [h2, visitT_list, four_split p1 p2 p3 p4] at h
    exact absurd rfl h
theorem fVisit_a1 {l a b c d : List UInt8} (h1 : splitC 32 l = [a, b, c, d]) (h : numO a = none) : fVisit l = none := by rw [fVisit_at h1, h]
theorem fVisit_a2 {l a b c d : List UInt8} {M : Int} (h1 : splitC 32 l = [a, b, c, d]) (h : numO a = some M) (h3 : numO d = none) : fVisit l = none := by rw [fVisit_at h1, h, h3]
theorem fVisit_a3 {l a b c d : List UInt8} {M A : Int} (h1 : splitC 32 l = [a, b, c, d]) (h : numO a = some M) (h3 : numO d = some A) : fVisit l = if visitB M (tB b) (kindOf c) A = true then some (M, tB b, kindOf c, A) else none := by rw [fVisit_at h1, h, h3]
end Go.Proofs.YtmfadjdpbobfhaaDoor
