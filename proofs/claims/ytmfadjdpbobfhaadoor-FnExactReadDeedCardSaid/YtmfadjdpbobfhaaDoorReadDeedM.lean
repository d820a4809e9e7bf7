/- Deed: its text read, pure. -/
import Derived.Test.YtmfadjdpbobfhaaDoorWordsM
import Derived.Test.YtmfadjdpbobfhaaDoorDeedO
import Derived.Test.YtmfadjdpbobfhaaDoorDeed
namespace Go.Proofs.YtmfadjdpbobfhaaDoor
open Go.RowKit
set_option linter.unusedVariables false

def fDeed (l : List UInt8) : Option (ByteArray × ByteArray × Int × Int) := match splitC 32 l with
  | [a, b, c] => match splitC 45 b with
    | [u, v] => match numO a, numO c with
      | some M, some A => if deedB (tB u) (tB v) M A = true then some ((tB u), (tB v), M, A) else none
      | _, _ => none
    | _ => none
  | _ => none
def deedRV (o : Option (ByteArray × ByteArray × Int × Int)) : Value := match o with
  | some (xFrom, xTo, xYear, xDoubt) => .tuple #[.agg #[.string xFrom, .string xTo, .int .i64 xYear, .int .i64 xDoubt], .bool true]
  | none => .tuple #[.agg #[.string ⟨#[]⟩, .string ⟨#[]⟩, .int .i64 0, .int .i64 0], .bool false]
theorem deedT_list {xFrom : ByteArray} {xTo : ByteArray} {xYear : Int} {xDoubt : Int} : (deedT xFrom xTo xYear xDoubt).data.toList = Lib.itoa xYear ++ 32 :: ((xFrom.data.toList ++ 45 :: xTo.data.toList) ++ 32 :: Lib.itoa xDoubt) := by
  unfold deedT
  simp only [ByteArray.data_append, Array.toList_append, dec_data]
  simp
theorem deed_parts {xFrom : ByteArray} {xTo : ByteArray} {xYear : Int} {xDoubt : Int} (h : deedB xFrom xTo xYear xDoubt = true) : (32 : UInt8) ∉ Lib.itoa xYear ∧ (32 : UInt8) ∉ xFrom.data.toList ++ 45 :: xTo.data.toList ∧ (32 : UInt8) ∉ Lib.itoa xDoubt ∧ (45 : UInt8) ∉ xFrom.data.toList ∧ (45 : UInt8) ∉ xTo.data.toList ∧ numO (Lib.itoa xYear) = some xYear ∧ numO (Lib.itoa xDoubt) = some xDoubt := by
  have h' := h
  simp only [deedB, Bool.and_eq_true, inB_iff] at h'
  have n1 : nameB xFrom = true := by simp only [h']
  have n2 : nameB xTo = true := by simp only [h']
  have hb := deedB_bd h
  refine ⟨dg_free (by decide) (by decide), ?_, dg_free (by decide) (by decide), name_free n1 (by decide) (by decide), name_free n2 (by decide) (by decide), numO_itoa (by omega), numO_itoa (by omega)⟩
  intro hm
  rcases List.mem_append.1 hm with hm | hm
  · exact name_free n1 (by decide) (by decide) hm
  · rcases List.mem_cons.1 hm with hm | hm
    · exact absurd hm (by decide)
    · exact name_free n2 (by decide) (by decide) hm
theorem fDeed_at {l a b c u v : List UInt8} (h1 : splitC 32 l = [a, b, c]) (h2 : splitC 45 b = [u, v]) : fDeed l = match numO a, numO c with
    | some M, some A => if deedB (tB u) (tB v) M A = true then some ((tB u), (tB v), M, A) else none
    | _, _ => none := by
  unfold fDeed
  rw [h1]
  simp only
  rw [h2]
theorem fDeed_some {l : List UInt8} {xFrom : ByteArray} {xTo : ByteArray} {xYear : Int} {xDoubt : Int} (h : fDeed l = some (xFrom, xTo, xYear, xDoubt)) : deedB xFrom xTo xYear xDoubt = true ∧ l = (deedT xFrom xTo xYear xDoubt).data.toList := by
  unfold fDeed at h
  split at h
  · rename_i a b c h1
    split at h
    · rename_i u v h2
      split at h
      · rename_i M A h3 h4
        split at h
        · rename_i h5
          simp only [Option.some.injEq, Prod.mk.injEq] at h
          obtain ⟨rfl, rfl, rfl, rfl⟩ := h
          obtain ⟨e1, -, -, -⟩ := split_three h1
          obtain ⟨e2, -, -⟩ := split_two h2
          refine ⟨h5, ?_⟩
          rw [deedT_list, (numO_some h3).1, (numO_some h4).1, data_tB, data_tB, ← e2]
          exact e1
        · cases h
      · cases h
    · cases h
  · cases h
theorem fDeed_back {xFrom : ByteArray} {xTo : ByteArray} {xYear : Int} {xDoubt : Int} (h : deedB xFrom xTo xYear xDoubt = true) : fDeed (deedT xFrom xTo xYear xDoubt).data.toList = some (xFrom, xTo, xYear, xDoubt) := by
  obtain ⟨p1, p2, p3, p4, p5, p6, p7⟩ := deed_parts h
  rw [deedT_list, fDeed_at (three_split p1 p2 p3) (two_split p4 p5)]
  simp only [p6, p7, tB_data, h, if_true]
theorem deed_words {xFrom : ByteArray} {xTo : ByteArray} {xYear : Int} {xDoubt : Int} (h : deedB xFrom xTo xYear xDoubt = true) : wordsOf (deedT xFrom xTo xYear xDoubt).data.toList = [Lib.itoa xYear, xFrom.data.toList ++ 45 :: xTo.data.toList, Lib.itoa xDoubt] := by
  obtain ⟨p1, p2, p3, -⟩ := deed_parts h
  rw [deedT_list, wordsOf, three_split p1 p2 p3]
  simp [List.filter, itoa_ne, app_cons_ne]
theorem fDeed_cut {l a b c : List UInt8} {xFrom : ByteArray} {xTo : ByteArray} {xYear : Int} {xDoubt : Int} (hw : wordsOf l = [a, b, c]) (h : fDeed l = some (xFrom, xTo, xYear, xDoubt)) : numO a = some xYear ∧ numO c = some xDoubt ∧ xFrom = tB (Lib.cut b [45]).1 ∧ xTo = tB (Lib.cut b [45]).2.1 ∧ orNo (deedB xFrom xTo xYear xDoubt) (deedT xFrom xTo xYear xDoubt) = tB l := by
  obtain ⟨h1, h2⟩ := fDeed_some h
  obtain ⟨p1, p2, p3, p4, p5, p6, p7⟩ := deed_parts h1
  have e := deed_words h1
  rw [← h2, hw] at e
  simp only [List.cons.injEq, and_true] at e
  obtain ⟨rfl, rfl, rfl⟩ := e
  rw [cut_hit p4]
  refine ⟨p6, p7, (tB_data _).symm, (tB_data _).symm, ?_⟩
  rw [orNo, if_pos h1]
  exact tB_eq h2.symm
theorem fDeed_no0 {l : List UInt8} (h : (wordsOf l).length ≠ 3) : fDeed l = none := by
  cases hf : fDeed l with
  | none => rfl
  | some p =>
    obtain ⟨xFrom, xTo, xYear, xDoubt⟩ := p
    obtain ⟨h1, h2⟩ := fDeed_some hf
    rw [h2, deed_words h1] at h
    exact absurd rfl h
theorem fDeed_no1 {l a b c : List UInt8} (hw : wordsOf l = [a, b, c]) (h : numO a = none) : fDeed l = none := by
  cases hf : fDeed l with
  | none => rfl
  | some p =>
    obtain ⟨xFrom, xTo, xYear, xDoubt⟩ := p
    have := (fDeed_cut hw hf).1
    rw [h] at this
    cases this
theorem fDeed_no2 {l a b c : List UInt8} (hw : wordsOf l = [a, b, c]) (h : numO c = none) : fDeed l = none := by
  cases hf : fDeed l with
  | none => rfl
  | some p =>
    obtain ⟨xFrom, xTo, xYear, xDoubt⟩ := p
    have := (fDeed_cut hw hf).2.1
    rw [h] at this
    cases this
theorem fDeed_no3 {l a b c : List UInt8} {M A : Int} {I J : ByteArray} (hw : wordsOf l = [a, b, c]) (hM : numO a = some M) (hA : numO c = some A) (hI : I = tB (Lib.cut b [45]).1) (hJ : J = tB (Lib.cut b [45]).2.1) (ht : orNo (deedB I J M A) (deedT I J M A) ≠ tB l) : fDeed l = none := by
  cases hf : fDeed l with
  | none => rfl
  | some p =>
    obtain ⟨xFrom, xTo, xYear, xDoubt⟩ := p
    obtain ⟨e1, e2, e3, e4, e5⟩ := fDeed_cut hw hf
    rw [hM] at e1
    rw [hA] at e2
    injection e1 with e1
    injection e2 with e2
    subst e1 e2
    rw [hI, hJ, ← e3, ← e4] at ht
    exact absurd e5 ht
theorem fDeed_of {l a b c : List UInt8} {M A : Int} {I J : ByteArray} (hw : wordsOf l = [a, b, c]) (ht : orNo (deedB I J M A) (deedT I J M A) = tB l) : fDeed l = some (I, J, M, A) := by
  cases hp : deedB I J M A with
  | false =>
    rw [hp, orNo, if_neg (by decide)] at ht
    have hl : l = [] := by
      have := congrArg (fun b : ByteArray => b.data.toList) ht
      simpa [tB] using this.symm
    rw [hl, words_nil] at hw
    cases hw
  | true =>
    rw [hp, orNo, if_pos rfl] at ht
    have hl : l = (deedT I J M A).data.toList := by
      have := congrArg (fun b : ByteArray => b.data.toList) ht
      rw [data_tB] at this
      exact this.symm
    rw [hl]
    exact fDeed_back hp
theorem fDeed_len1 {l : List UInt8} (h : (splitC 32 l).length ≠ 3) : fDeed l = none := by
  cases hf : fDeed l with
  | none => rfl
  | some p =>
    obtain ⟨xFrom, xTo, xYear, xDoubt⟩ := p
    obtain ⟨h1, h2⟩ := fDeed_some hf
    obtain ⟨p1, p2, p3, -⟩ := deed_parts h1
    rw [h2, deedT_list, three_split p1 p2 p3] at h
    exact absurd rfl h
theorem fDeed_len2 {l a b c : List UInt8} (h : splitC 32 l = [a, b, c]) (h2 : (splitC 45 b).length ≠ 2) : fDeed l = none := by
  cases hf : fDeed l with
  | none => rfl
  | some p =>
    obtain ⟨xFrom, xTo, xYear, xDoubt⟩ := p
    obtain ⟨h1, h3⟩ := fDeed_some hf
    obtain ⟨p1, p2, p3, p4, p5, -⟩ := deed_parts h1
    rw [h3, deedT_list, three_split p1 p2 p3] at h
    simp only [List.cons.injEq, and_true] at h
    rw [← h.2.1, two_split p4 p5] at h2
    exact absurd rfl h2
theorem fDeed_a1 {l a b c u v : List UInt8} (h1 : splitC 32 l = [a, b, c]) (h2 : splitC 45 b = [u, v]) (h : numO a = none) : fDeed l = none := by rw [fDeed_at h1 h2, h]
theorem fDeed_a2 {l a b c u v : List UInt8} {M : Int} (h1 : splitC 32 l = [a, b, c]) (h2 : splitC 45 b = [u, v]) (h : numO a = some M) (h3 : numO c = none) : fDeed l = none := by rw [fDeed_at h1 h2, h, h3]
theorem fDeed_a3 {l a b c u v : List UInt8} {M A : Int} (h1 : splitC 32 l = [a, b, c]) (h2 : splitC 45 b = [u, v]) (h : numO a = some M) (h3 : numO c = some A) : fDeed l = if deedB (tB u) (tB v) M A = true then some ((tB u), (tB v), M, A) else none := by rw [fDeed_at h1 h2, h, h3]
end Go.Proofs.YtmfadjdpbobfhaaDoor
