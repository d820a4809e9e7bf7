/- Merged states: the answer. -/
import Derived.Test.YtjeklbhdngkngaaMergeM
namespace Go.Proofs.Ytjeklbhdngkngaa
open Go.RowKit
set_option linter.unusedVariables false

def mkSet (rs ss ts : List DSetting) (z : Str) : DSetting := ⟨tB z, mergeV rs ss ts z⟩
/-- what the first k names give -/
def mergeK (rs ss ts : List DSetting) (zs : List Str) (k : Nat) : List DSetting := ((zs.take k).filter (mergeP rs ss ts)).map (mkSet rs ss ts)
theorem mergeK_succ {rs ss ts : List DSetting} {zs : List Str} {k : Nat} (h : k < zs.length) : mergeK rs ss ts zs (k + 1) = mergeK rs ss ts zs k ++ (if mergeP rs ss ts zs[k] = true then [mkSet rs ss ts zs[k]] else []) := by
  unfold mergeK
  rw [List.take_succ_eq_append_getElem h, List.filter_append, List.map_append]
  congr 1
  cases hp : mergeP rs ss ts zs[k] <;> simp [hp]
theorem mergeK_len {rs ss ts : List DSetting} {zs : List Str} (k : Nat) : (mergeK rs ss ts zs k).length ≤ k := by
  unfold mergeK
  rw [List.length_map]
  exact Nat.le_trans (List.length_filter_le _ _) (by rw [List.length_take]; omega)
def mergeL (rs ss ts : List DSetting) : List DSetting := mergeK rs ss ts (setOf (allsN [ss, ts] 2)) (setOf (allsN [ss, ts] 2)).length
theorem mergeL_three {rs ss ts : List DSetting} : mergeK rs ss ts (setOf (allsN [rs, ss, ts] 3)) (setOf (allsN [rs, ss, ts] 3)).length = mergeL rs ss ts := by
  unfold mergeL mergeK
  rw [List.take_length, List.take_length, merge_names]
noncomputable def fMerge (rs ss ts : List DSetting) : List DSetting × Int := if (stateB rs && stateB ss && stateB ts) = false then ([], 1) else if confN rs ss ts ≠ [] then ([], 6) else if 24 < (mergeL rs ss ts).length then ([], 5) else (mergeL rs ss ts, 0)

end Go.Proofs.Ytjeklbhdngkngaa
