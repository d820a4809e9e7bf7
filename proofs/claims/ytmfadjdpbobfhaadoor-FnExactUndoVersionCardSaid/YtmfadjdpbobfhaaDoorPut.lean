/- The reference's l19Put: a text put into an ascending list, once. -/
import Derived.Test.YtmfadjdpbobfhaaDoorStrs
import Derived.Test.YtmfadjdpbobfhaaDoorRowOps
import Derived.Sort.Walk0
namespace Go.Proofs.YtmfadjdpbobfhaaDoor
open Go.RowKit
set_option linter.unusedVariables false

theorem less_iff (a b : ByteArray) : Op.bytesLess a.toList b.toList = decide (a.data.toList < b.data.toList) := by rw [bytesLess_eq, Lib.toList_data, Lib.toList_data]
theorem own_src' {w : World} {B : Nat} {e : TypeId} {k : Nat} {A : Option Addr} {n c : Nat} {xs : List Value} (h : w.ownsRow B e k (.slice A n c) n xs) : SrcAt w A xs := fun hne => by
  rcases h.2 with ⟨h1, h2⟩ | ⟨g, cap, cur, hv, r⟩
  · have := h.1
    rw [h2] at this
    exact absurd (List.eq_nil_of_length_eq_zero (by simpa using this)) hne
  · injection hv with hA
    subst hA
    exact ⟨_, rfl, h.cells (g := g) rfl⟩
theorem one_vS (ss : List Str) : ∀ u ∈ ss.map vS, u.oneCell' = true := fun u hu => by
  obtain ⟨s, _, rfl⟩ := List.mem_map.1 hu
  rfl
theorem own_cap {w : World} {B : Nat} {e : TypeId} {size g n c : Nat} {xs : List Value} (h : w.ownsRow B e size (.slice (some ⟨g, 0, none⟩) n c) n xs) : n ≤ c ∧ c ≤ maxLen ∧ B ≤ g ∧ g < w.heap.size := by
  rcases h.2 with ⟨h1, h2⟩ | ⟨g', cap, cur, hv, hb, hh, hc, hm, _⟩
  · cases h1
  · cases hv
    refine ⟨hc, hm, hb, ?_⟩
    rcases Nat.lt_or_ge g w.heap.size with h3 | h3
    · exact h3
    · rw [Array.getElem?_eq_none h3] at hh; cases hh
theorem up_get {ss : List Str} (h : Up ss) {i j : Nat} (hij : i < j) (hj : j < ss.length) : ss[i] < ss[j] := List.pairwise_iff_getElem.1 h i j (by omega) hj hij
/-- a place at which a text belongs -/
theorem put_at {ss : List Str} {x : Str} {k : Nat} (h : Up ss) (hk : k ≤ ss.length) (hr : ∀ j (hj : j < ss.length), k ≤ j → x < ss[j]) (hl : ∀ hk0 : 0 < k, ss[k - 1] < x) : putS ss x = ss.take k ++ x :: ss.drop k := by
  have e : ss = ss.take k ++ ss.drop k := (List.take_append_drop k ss).symm
  have h2 : Up (ss.take k ++ ss.drop k) := e ▸ h
  conv => lhs; rw [e]
  refine putS_at h2 (fun z hz => ?_) (fun z hz => ?_)
  · obtain ⟨i, hi, rfl⟩ := List.mem_iff_getElem.1 hz
    rw [List.getElem_take]
    have hik : i < k := by rw [List.length_take] at hi; omega
    rcases Nat.lt_or_ge i (k - 1) with h3 | h3
    · exact List.lt_trans (up_get h h3 (by omega)) (hl (by omega))
    · have : i = k - 1 := by omega
      subst this
      exact hl (by omega)
  · obtain ⟨i, hi, rfl⟩ := List.mem_iff_getElem.1 hz
    rw [List.getElem_drop]
    exact hr _ _ (by omega)


end Go.Proofs.YtmfadjdpbobfhaaDoor
