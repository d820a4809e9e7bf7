/- A part's text read: pure. -/
import Derived.Test.YtmfadjdpbobfhaaDoorReadM
import Derived.Test.YtmfadjdpbobfhaaDoorPartO
namespace Go.Proofs.YtmfadjdpbobfhaaDoor
open Go.RowKit
set_option linter.unusedVariables false

def fPart (l : List UInt8) : Option (ByteArray × Int × Int) := match splitC 32 l with
  | [a, b] => match splitC 64 b with
    | [m, t] => match numO m, numO t with
      | some M, some A => if partB (tB a) A M = true then some (tB a, A, M) else none
      | _, _ => none
    | _ => none
  | _ => none
def partRV (o : Option (ByteArray × Int × Int)) : Value := match o with
  | some (i, a, m) => .tuple #[.agg #[.string i, .int .i64 a, .int .i64 m], .bool true]
  | none => .tuple #[.agg #[.string ⟨#[]⟩, .int .i64 0, .int .i64 0], .bool false]
theorem fPart_out {l : List UInt8} {i : ByteArray} {A M : Int} (h : fPart l = some (i, A, M)) : ∃ a m t, splitC 32 l = [a, m ++ 64 :: t] ∧ splitC 64 (m ++ 64 :: t) = [m, t] ∧ numO m = some M ∧ numO t = some A ∧ i = tB a ∧ partB i A M = true ∧ l = a ++ 32 :: (m ++ 64 :: t) ∧ 32 ∉ a ∧ 64 ∉ m := by
  unfold fPart at h
  split at h
  · rename_i a b h1
    split at h
    · rename_i m t h2
      split at h
      · rename_i M' A' h3 h4
        split at h
        · rename_i h5
          injection h with h
          injection h with h6 h
          injection h with h7 h8
          subst h6 h7 h8
          obtain ⟨e1, e2, e3⟩ := split_two h1
          obtain ⟨e4, e5, e6⟩ := split_two h2
          subst e4
          exact ⟨a, m, t, h1, h2, h3, h4, rfl, h5, e1, e2, e5⟩
        · cases h
      · cases h
    · cases h
  · cases h
theorem partT_list (i : ByteArray) (A M : Int) : (partT i A M).data.toList = i.data.toList ++ 32 :: (Lib.itoa M ++ 64 :: Lib.itoa A) := by
  unfold partT
  simp only [ByteArray.data_append, Array.toList_append, dec_data]
  simp
theorem fPart_cut {l : List UInt8} {i : ByteArray} {A M : Int} (h : fPart l = some (i, A, M)) : i = tB (Lib.cut l [32]).1 ∧ numO (Lib.cut (Lib.cut l [32]).2.1 [64]).1 = some M ∧ numO (Lib.cut (Lib.cut l [32]).2.1 [64]).2.1 = some A ∧ orNo (partB i A M) (partT i A M) = tB l := by
  obtain ⟨a, m, t, h1, h2, h3, h4, h5, h6, h7, h8, h9⟩ := fPart_out h
  have e1 : Lib.cut l [32] = (a, m ++ 64 :: t, true) := by rw [h7]; exact cut_hit h8
  have e2 : Lib.cut (m ++ 64 :: t) [64] = (m, t, true) := cut_hit h9
  rw [e1]
  simp only
  rw [e2]
  refine ⟨h5, h3, h4, ?_⟩
  rw [orNo, if_pos h6]
  refine tB_eq ?_
  rw [partT_list, (numO_some h3).1, (numO_some h4).1, h7, h5]
  rfl
theorem fPart_no1 {l : List UInt8} (h : numO (Lib.cut (Lib.cut l [32]).2.1 [64]).1 = none) : fPart l = none := by
  cases hf : fPart l with
  | none => rfl
  | some p =>
    obtain ⟨i, A, M⟩ := p
    have h2 := (fPart_cut hf).2.1
    rw [h] at h2
    cases h2
theorem fPart_no2 {l : List UInt8} (h : numO (Lib.cut (Lib.cut l [32]).2.1 [64]).2.1 = none) : fPart l = none := by
  cases hf : fPart l with
  | none => rfl
  | some p =>
    obtain ⟨i, A, M⟩ := p
    have h2 := (fPart_cut hf).2.2.1
    rw [h] at h2
    cases h2
theorem fPart_no3 {l : List UInt8} {A M : Int} {I : ByteArray} (hI : I = tB (Lib.cut l [32]).1) (hM : numO (Lib.cut (Lib.cut l [32]).2.1 [64]).1 = some M) (hA : numO (Lib.cut (Lib.cut l [32]).2.1 [64]).2.1 = some A) (ht : orNo (partB I A M) (partT I A M) ≠ tB l) : fPart l = none := by
  cases hf : fPart l with
  | none => rfl
  | some p =>
    obtain ⟨i, A', M'⟩ := p
    obtain ⟨h1, h2, h3, h4⟩ := fPart_cut hf
    rw [hM] at h2
    rw [hA] at h3
    injection h2 with h2
    injection h3 with h3
    subst h2 h3
    rw [hI] at ht
    rw [h1] at h4
    exact absurd h4 ht
theorem fPart_of {l : List UInt8} {A M : Int} {I R : ByteArray} (hI : I = tB (Lib.cut l [32]).1) (hM : numO (Lib.cut (Lib.cut l [32]).2.1 [64]).1 = some M) (hA : numO (Lib.cut (Lib.cut l [32]).2.1 [64]).2.1 = some A) (ht : orNo (partB I A M) (partT I A M) = tB l) : fPart l = some (I, A, M) := by
  cases hp : partB I A M with
  | false =>
    rw [hp, orNo, if_neg (by decide)] at ht
    have hl : l = [] := by
      have := congrArg (fun b : ByteArray => b.data.toList) ht
      simpa [tB] using this.symm
    subst hl
    have e1 : Lib.cut [] [32] = ([], [], false) := cut_miss (by simp)
    have e2 : Lib.cut [] [64] = ([], [], false) := cut_miss (by simp)
    rw [e1] at hM
    simp only at hM
    rw [e2] at hM
    cases hM
  | true =>
    rw [hp, orNo, if_pos rfl] at ht
    have hl : l = I.data.toList ++ 32 :: (Lib.itoa M ++ 64 :: Lib.itoa A) := by
      have := congrArg (fun b : ByteArray => b.data.toList) ht
      rw [partT_list] at this
      simpa [tB] using this.symm
    have hp2 := hp
    simp only [partB, Bool.and_eq_true, inB_iff] at hp2
    have f1 : (32 : UInt8) ∉ I.data.toList := name_free hp2.1 (by decide) (by decide)
    have f2 : (32 : UInt8) ∉ Lib.itoa M ++ 64 :: Lib.itoa A := by
      intro hm
      rcases List.mem_append.1 hm with hm | hm
      · exact dg_free (n := M) (by decide) (by decide) hm
      · rcases List.mem_cons.1 hm with hm | hm
        · exact absurd hm (by decide)
        · exact dg_free (n := A) (by decide) (by decide) hm
    have f3 : (64 : UInt8) ∉ Lib.itoa M := dg_free (by decide) (by decide)
    have f4 : (64 : UInt8) ∉ Lib.itoa A := dg_free (by decide) (by decide)
    have n1 : numO (Lib.itoa M) = some M := numO_itoa (by omega)
    have n2 : numO (Lib.itoa A) = some A := numO_itoa (by omega)
    unfold fPart
    rw [hl, two_split f1 f2]
    simp only
    rw [two_split f3 f4]
    simp only [n1, n2, tB_data, hp, if_true]
end Go.Proofs.YtmfadjdpbobfhaaDoor
