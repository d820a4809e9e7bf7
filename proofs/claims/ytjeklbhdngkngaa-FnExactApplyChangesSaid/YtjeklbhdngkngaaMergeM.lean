/- Merged states: the plain law. -/
import Derived.Test.YtjeklbhdngkngaaStConfS
namespace Go.Proofs.Ytjeklbhdngkngaa
open Go.RowKit
set_option linter.unusedVariables false

/-- the value that a merge gives a name -/
def mergeV (rs ss ts : List DSetting) (z : Str) : Int := if valN ss z = valN rs z then valN ts z else valN ss z
def mergeP (rs ss ts : List DSetting) (z : Str) : Bool := decide (0 ≤ mergeV rs ss ts z)
theorem alls_two (ss ts : List DSetting) : allsN [ss, ts] 2 = (ss ++ ts).map stn := by
  show ([] ++ allN ss) ++ allN ts = _
  rw [allN_map, allN_map, List.map_append, List.nil_append]
theorem val_neg {xs : List DSetting} {z : Str} (h : z ∉ xs.map stn) : valN xs z = -1 := valN_none fun j hj e => h (by rw [← e]; exact List.mem_map_of_mem (List.getElem_mem hj))
theorem merge_names {rs ss ts : List DSetting} : (setOf (allsN [rs, ss, ts] 3)).filter (mergeP rs ss ts) = (setOf (allsN [ss, ts] 2)).filter (mergeP rs ss ts) := by
  refine up_unique (List.Pairwise.sublist List.filter_sublist (setOf_up _)) (List.Pairwise.sublist List.filter_sublist (setOf_up _)) (fun z => ?_)
  rw [List.mem_filter, List.mem_filter, setOf_mem, setOf_mem, alls_map, alls_two]
  simp only [List.map_append, List.mem_append]
  constructor
  · rintro ⟨(h | h) | h, hp⟩
    · by_cases h1 : z ∈ ss.map stn
      · exact ⟨.inl h1, hp⟩
      · by_cases h2 : z ∈ ts.map stn
        · exact ⟨.inr h2, hp⟩
        · exfalso
          simp only [mergeP, mergeV, val_neg h1, val_neg h2, decide_eq_true_eq] at hp
          split at hp <;> omega
    · exact ⟨.inl h, hp⟩
    · exact ⟨.inr h, hp⟩
  · rintro ⟨h | h, hp⟩
    · exact ⟨.inl (.inr h), hp⟩
    · exact ⟨.inr h, hp⟩

end Go.Proofs.Ytjeklbhdngkngaa
