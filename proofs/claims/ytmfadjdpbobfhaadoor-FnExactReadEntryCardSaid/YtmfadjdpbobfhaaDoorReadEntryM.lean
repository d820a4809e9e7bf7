/- Entry: its text read, pure. -/
import Derived.Test.YtmfadjdpbobfhaaDoorWordsM
import Derived.Test.YtmfadjdpbobfhaaDoorEntryO
import Derived.Test.YtmfadjdpbobfhaaDoorEntry
namespace Go.Proofs.YtmfadjdpbobfhaaDoor
open Go.RowKit
set_option linter.unusedVariables false

def fEntry (l : List UInt8) : Option (Int × ByteArray × ByteArray × Int) := match splitC 32 l with
  | [a, b, c] => match splitC 45 b with
    | [u, v] => match numO a, numO c with
      | some M, some A => if entryB M (tB v) (tB u) A = true then some (M, (tB v), (tB u), A) else none
      | _, _ => none
    | _ => none
  | _ => none
def entryRV (o : Option (Int × ByteArray × ByteArray × Int)) : Value := match o with
  | some (xDay, xDebit, xCredit, xAmount) => .tuple #[.agg #[.int .i64 xDay, .string xDebit, .string xCredit, .int .i64 xAmount], .bool true]
  | none => .tuple #[.agg #[.int .i64 0, .string ⟨#[]⟩, .string ⟨#[]⟩, .int .i64 0], .bool false]
theorem entryT_list {xDay : Int} {xDebit : ByteArray} {xCredit : ByteArray} {xAmount : Int} : (entryT xDay xDebit xCredit xAmount).data.toList = Lib.itoa xDay ++ 32 :: ((xCredit.data.toList ++ 45 :: xDebit.data.toList) ++ 32 :: Lib.itoa xAmount) := by
  unfold entryT
  simp only [ByteArray.data_append, Array.toList_append, dec_data]
  simp
theorem entry_parts {xDay : Int} {xDebit : ByteArray} {xCredit : ByteArray} {xAmount : Int} (h : entryB xDay xDebit xCredit xAmount = true) : (32 : UInt8) ∉ Lib.itoa xDay ∧ (32 : UInt8) ∉ xCredit.data.toList ++ 45 :: xDebit.data.toList ∧ (32 : UInt8) ∉ Lib.itoa xAmount ∧ (45 : UInt8) ∉ xCredit.data.toList ∧ (45 : UInt8) ∉ xDebit.data.toList ∧ numO (Lib.itoa xDay) = some xDay ∧ numO (Lib.itoa xAmount) = some xAmount := by
  have h' := h
  simp only [entryB, Bool.and_eq_true, inB_iff] at h'
  have n1 : nameB xCredit = true := by simp only [h']
  have n2 : nameB xDebit = true := by simp only [h']
  have hb := entryB_bd h
  refine ⟨dg_free (by decide) (by decide), ?_, dg_free (by decide) (by decide), name_free n1 (by decide) (by decide), name_free n2 (by decide) (by decide), numO_itoa (by omega), numO_itoa (by omega)⟩
  intro hm
  rcases List.mem_append.1 hm with hm | hm
  · exact name_free n1 (by decide) (by decide) hm
  · rcases List.mem_cons.1 hm with hm | hm
    · exact absurd hm (by decide)
    · exact name_free n2 (by decide) (by decide) hm
theorem fEntry_at {l a b c u v : List UInt8} (h1 : splitC 32 l = [a, b, c]) (h2 : splitC 45 b = [u, v]) : fEntry l = match numO a, numO c with
    | some M, some A => if entryB M (tB v) (tB u) A = true then some (M, (tB v), (tB u), A) else none
    | _, _ => none := by
  unfold fEntry
  rw [h1]
  simp only
  rw [h2]
theorem fEntry_some {l : List UInt8} {xDay : Int} {xDebit : ByteArray} {xCredit : ByteArray} {xAmount : Int} (h : fEntry l = some (xDay, xDebit, xCredit, xAmount)) : entryB xDay xDebit xCredit xAmount = true ∧ l = (entryT xDay xDebit xCredit xAmount).data.toList := by
  unfold fEntry at h
  split at h
  · rename_i a b c h1
    split at h
    · rename_i u v h2
      split at h
      · rename_i M A h3 h4
        split at h
        · rename_i h5
          simp only [Option.some.injEq, Prod.mk.injEq] at h
          obtain ⟨rfl, rfl, rfl, rfl⟩ := h
          obtain ⟨e1, -, -, -⟩ := split_three h1
          obtain ⟨e2, -, -⟩ := split_two h2
          refine ⟨h5, ?_⟩
          rw [entryT_list, (numO_some h3).1, (numO_some h4).1, data_tB, data_tB, ← e2]
          exact e1
        · cases h
      · cases h
    · cases h
  · cases h
theorem fEntry_back {xDay : Int} {xDebit : ByteArray} {xCredit : ByteArray} {xAmount : Int} (h : entryB xDay xDebit xCredit xAmount = true) : fEntry (entryT xDay xDebit xCredit xAmount).data.toList = some (xDay, xDebit, xCredit, xAmount) := by
  obtain ⟨p1, p2, p3, p4, p5, p6, p7⟩ := entry_parts h
  rw [entryT_list, fEntry_at (three_split p1 p2 p3) (two_split p4 p5)]
  simp only [p6, p7, tB_data, h, if_true]
theorem entry_words {xDay : Int} {xDebit : ByteArray} {xCredit : ByteArray} {xAmount : Int} (h : entryB xDay xDebit xCredit xAmount = true) : wordsOf (entryT xDay xDebit xCredit xAmount).data.toList = [Lib.itoa xDay, xCredit.data.toList ++ 45 :: xDebit.data.toList, Lib.itoa xAmount] := by
  obtain ⟨p1, p2, p3, -⟩ := entry_parts h
  rw [entryT_list, wordsOf, three_split p1 p2 p3]
  simp [List.filter, itoa_ne, app_cons_ne]
theorem fEntry_cut {l a b c : List UInt8} {xDay : Int} {xDebit : ByteArray} {xCredit : ByteArray} {xAmount : Int} (hw : wordsOf l = [a, b, c]) (h : fEntry l = some (xDay, xDebit, xCredit, xAmount)) : numO a = some xDay ∧ numO c = some xAmount ∧ xCredit = tB (Lib.cut b [45]).1 ∧ xDebit = tB (Lib.cut b [45]).2.1 ∧ orNo (entryB xDay xDebit xCredit xAmount) (entryT xDay xDebit xCredit xAmount) = tB l := by
  obtain ⟨h1, h2⟩ := fEntry_some h
  obtain ⟨p1, p2, p3, p4, p5, p6, p7⟩ := entry_parts h1
  have e := entry_words h1
  rw [← h2, hw] at e
  simp only [List.cons.injEq, and_true] at e
  obtain ⟨rfl, rfl, rfl⟩ := e
  rw [cut_hit p4]
  refine ⟨p6, p7, (tB_data _).symm, (tB_data _).symm, ?_⟩
  rw [orNo, if_pos h1]
  exact tB_eq h2.symm
theorem fEntry_no0 {l : List UInt8} (h : (wordsOf l).length ≠ 3) : fEntry l = none := by
  cases hf : fEntry l with
  | none => rfl
  | some p =>
    obtain ⟨xDay, xDebit, xCredit, xAmount⟩ := p
    obtain ⟨h1, h2⟩ := fEntry_some hf
    rw [h2, entry_words h1] at h
    exact absurd rfl h
theorem fEntry_no1 {l a b c : List UInt8} (hw : wordsOf l = [a, b, c]) (h : numO a = none) : fEntry l = none := by
  cases hf : fEntry l with
  | none => rfl
  | some p =>
    obtain ⟨xDay, xDebit, xCredit, xAmount⟩ := p
    have := (fEntry_cut hw hf).1
    rw [h] at this
    cases this
theorem fEntry_no2 {l a b c : List UInt8} (hw : wordsOf l = [a, b, c]) (h : numO c = none) : fEntry l = none := by
  cases hf : fEntry l with
  | none => rfl
  | some p =>
    obtain ⟨xDay, xDebit, xCredit, xAmount⟩ := p
    have := (fEntry_cut hw hf).2.1
    rw [h] at this
    cases this
theorem fEntry_no3 {l a b c : List UInt8} {M A : Int} {I J : ByteArray} (hw : wordsOf l = [a, b, c]) (hM : numO a = some M) (hA : numO c = some A) (hI : I = tB (Lib.cut b [45]).1) (hJ : J = tB (Lib.cut b [45]).2.1) (ht : orNo (entryB M J I A) (entryT M J I A) ≠ tB l) : fEntry l = none := by
  cases hf : fEntry l with
  | none => rfl
  | some p =>
    obtain ⟨xDay, xDebit, xCredit, xAmount⟩ := p
    obtain ⟨e1, e2, e3, e4, e5⟩ := fEntry_cut hw hf
    rw [hM] at e1
    rw [hA] at e2
    injection e1 with e1
    injection e2 with e2
    subst e1 e2
    rw [hI, hJ, ← e3, ← e4] at ht
    exact absurd e5 ht
theorem fEntry_of {l a b c : List UInt8} {M A : Int} {I J : ByteArray} (hw : wordsOf l = [a, b, c]) (ht : orNo (entryB M J I A) (entryT M J I A) = tB l) : fEntry l = some (M, J, I, A) := by
  cases hp : entryB M J I A with
  | false =>
    rw [hp, orNo, if_neg (by decide)] at ht
    have hl : l = [] := by
      have := congrArg (fun b : ByteArray => b.data.toList) ht
      simpa [tB] using this.symm
    rw [hl, words_nil] at hw
    cases hw
  | true =>
    rw [hp, orNo, if_pos rfl] at ht
    have hl : l = (entryT M J I A).data.toList := by
      have := congrArg (fun b : ByteArray => b.data.toList) ht
      rw [data_tB] at this
      exact this.symm
    rw [hl]
    exact fEntry_back hp
theorem fEntry_len1 {l : List UInt8} (h : (splitC 32 l).length ≠ 3) : fEntry l = none := by
  cases hf : fEntry l with
  | none => rfl
  | some p =>
    obtain ⟨xDay, xDebit, xCredit, xAmount⟩ := p
    obtain ⟨h1, h2⟩ := fEntry_some hf
    obtain ⟨p1, p2, p3, -⟩ := entry_parts h1
    rw [h2, entryT_list, three_split p1 p2 p3] at h
    exact absurd rfl h
theorem fEntry_len2 {l a b c : List UInt8} (h : splitC 32 l = [a, b, c]) (h2 : (splitC 45 b).length ≠ 2) : fEntry l = none := by
  cases hf : fEntry l with
  | none => rfl
  | some p =>
    obtain ⟨xDay, xDebit, xCredit, xAmount⟩ := p
    obtain ⟨h1, h3⟩ := fEntry_some hf
    obtain ⟨p1, p2, p3, p4, p5, -⟩ := entry_parts h1
    rw [h3, entryT_list, three_split p1 p2 p3] at h
    simp only [List.cons.injEq, and_true] at h
    rw [← h.2.1, two_split p4 p5] at h2
    exact absurd rfl h2
theorem fEntry_a1 {l a b c u v : List UInt8} (h1 : splitC 32 l = [a, b, c]) (h2 : splitC 45 b = [u, v]) (h : numO a = none) : fEntry l = none := by rw [fEntry_at h1 h2, h]
theorem fEntry_a2 {l a b c u v : List UInt8} {M : Int} (h1 : splitC 32 l = [a, b, c]) (h2 : splitC 45 b = [u, v]) (h : numO a = some M) (h3 : numO c = none) : fEntry l = none := by rw [fEntry_at h1 h2, h, h3]
theorem fEntry_a3 {l a b c u v : List UInt8} {M A : Int} (h1 : splitC 32 l = [a, b, c]) (h2 : splitC 45 b = [u, v]) (h : numO a = some M) (h3 : numO c = some A) : fEntry l = if entryB M (tB v) (tB u) A = true then some (M, (tB v), (tB u), A) else none := by rw [fEntry_at h1 h2, h, h3]
end Go.Proofs.YtmfadjdpbobfhaaDoor
