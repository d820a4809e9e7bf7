/-
  No cell of these rows narrows 'for every input' (looked for: loops, veiled, ifaces, maps, wideKeys, modest, calm, conditions, laid).
  DERIVED. THE GIVEN ROWS OF THIS SEAT. 7 by the template 'for every input the law returns true; each argument reads behind the call as it read before'; 0 by the template 'total and deterministic' (their statements: YtjeklbhdngkngaaTotals.lean).
  GIVEN WITH THE SEED: the statements are not yours to turn. If you find one false, say at which input.
  Laid BY PROGRAM, IN A SANDBOX (cutbox-rows.mjs): the forced cells as the released guide's own fill.sh prints them over the translation 24d6204ff618b072… (all of the seat's roots in one cut). By AI agents, Wed Nov 11 2026. No macro, syntax, notation, axiom, sorry.
-/
import Derived.Test.YtjeklbhdngkngaaChecked
import GoSem.Claim
import GoSem.ClaimJoined
import GoSem.ClaimMapViews
import Derived.JoinedTies
import Derived.KernelRfl
namespace Go.Proofs.Ytjeklbhdngkngaa
/- THE CELL 'sum', in the pinned program and in every row, IS THE sha256 OF THE DUMP (.gsa) THAT YtjeklbhdngkngaaProg.lean LOADS. Nothing in Lean hashes anything: it is a label: what it is worth is what the hold of that sum in a sandbox is worth. -/
noncomputable def Try.pinned : Pinned := { name := "ytjeklbhdngkngaa", sum := "24d6204ff618b0723cde416db9073d9823da0491d54481cc432d96c86e3168bc", checked := Try.checked }
namespace Rows
def none {H : Type} : Left H := { results := [], args := [] }

/-- 'laws.FnExactMergeStates': WHATEVER THE INPUT: true; the input reads as it did. -/
def fnExactMergeStatesSpec : ChangeSpec := { name := "fnExactMergeStates", fn := fun _ => fun
  | [d1, d2, d3] => { results := [.lit (.bool true)], args := [d1, d2, d3] }
  | _ => none }
def fnExactMergeStatesRow : OpenClaim := { program := "ytjeklbhdngkngaa", sum := "24d6204ff618b0723cde416db9073d9823da0491d54481cc432d96c86e3168bc", func := "loop.example/g01061/laws.FnExactMergeStates", spec := "fnExactMergeStates", unfollowed := true, recurses := true, apart := false }
def FnExactMergeStatesSaid : Prop := fnExactMergeStatesRow.holds Try.pinned (OpenSpec.ofChange fnExactMergeStatesSpec)

/-- ITS FALSE NEIGHBOUR: 'it returns false'. Refute it at one input. -/
def fnExactMergeStatesWrong : ChangeSpec := { name := "fnExactMergeStates", fn := fun _ => fun
  | [d1, d2, d3] => { results := [.lit (.bool false)], args := [d1, d2, d3] }
  | _ => none }
def FnExactMergeStatesWrongFalsely : Prop := fnExactMergeStatesRow.holds Try.pinned (OpenSpec.ofChange fnExactMergeStatesWrong)

/-- 'laws.FnExactApplyChanges': WHATEVER THE INPUT: true; the input reads as it did. -/
def fnExactApplyChangesSpec : ChangeSpec := { name := "fnExactApplyChanges", fn := fun _ => fun
  | [d1, d2] => { results := [.lit (.bool true)], args := [d1, d2] }
  | _ => none }
def fnExactApplyChangesRow : OpenClaim := { program := "ytjeklbhdngkngaa", sum := "24d6204ff618b0723cde416db9073d9823da0491d54481cc432d96c86e3168bc", func := "loop.example/g01061/laws.FnExactApplyChanges", spec := "fnExactApplyChanges", inPlace := ["slices.overlaps[loop.example/g01061/impl.Setting]"], apart := false }
def FnExactApplyChangesSaid : Prop := fnExactApplyChangesRow.holds Try.pinned (OpenSpec.ofChange fnExactApplyChangesSpec)

/-- ITS FALSE NEIGHBOUR: 'it returns false'. Refute it at one input. -/
def fnExactApplyChangesWrong : ChangeSpec := { name := "fnExactApplyChanges", fn := fun _ => fun
  | [d1, d2] => { results := [.lit (.bool false)], args := [d1, d2] }
  | _ => none }
def FnExactApplyChangesWrongFalsely : Prop := fnExactApplyChangesRow.holds Try.pinned (OpenSpec.ofChange fnExactApplyChangesWrong)

/-- 'laws.FnExactCommitState': WHATEVER THE INPUT: true; the input reads as it did. -/
def fnExactCommitStateSpec : ChangeSpec := { name := "fnExactCommitState", fn := fun _ => fun
  | [d1, d2, d3, d4] => { results := [.lit (.bool true)], args := [d1, d2, d3, d4] }
  | _ => none }
def fnExactCommitStateRow : OpenClaim := { program := "ytjeklbhdngkngaa", sum := "24d6204ff618b0723cde416db9073d9823da0491d54481cc432d96c86e3168bc", func := "loop.example/g01061/laws.FnExactCommitState", spec := "fnExactCommitState", apart := false }
def FnExactCommitStateSaid : Prop := fnExactCommitStateRow.holds Try.pinned (OpenSpec.ofChange fnExactCommitStateSpec)

/-- ITS FALSE NEIGHBOUR: 'it returns false'. Refute it at one input. -/
def fnExactCommitStateWrong : ChangeSpec := { name := "fnExactCommitState", fn := fun _ => fun
  | [d1, d2, d3, d4] => { results := [.lit (.bool false)], args := [d1, d2, d3, d4] }
  | _ => none }
def FnExactCommitStateWrongFalsely : Prop := fnExactCommitStateRow.holds Try.pinned (OpenSpec.ofChange fnExactCommitStateWrong)

/-- 'laws.FnExactMergeVisits': WHATEVER THE INPUT: true; the input reads as it did. -/
def fnExactMergeVisitsSpec : ChangeSpec := { name := "fnExactMergeVisits", fn := fun _ => fun
  | [d1, d2] => { results := [.lit (.bool true)], args := [d1, d2] }
  | _ => none }
def fnExactMergeVisitsRow : OpenClaim := { program := "ytjeklbhdngkngaa", sum := "24d6204ff618b0723cde416db9073d9823da0491d54481cc432d96c86e3168bc", func := "loop.example/g01061/laws.FnExactMergeVisits", spec := "fnExactMergeVisits", unfollowed := true, recurses := true, apart := false }
def FnExactMergeVisitsSaid : Prop := fnExactMergeVisitsRow.holds Try.pinned (OpenSpec.ofChange fnExactMergeVisitsSpec)

/-- ITS FALSE NEIGHBOUR: 'it returns false'. Refute it at one input. -/
def fnExactMergeVisitsWrong : ChangeSpec := { name := "fnExactMergeVisits", fn := fun _ => fun
  | [d1, d2] => { results := [.lit (.bool false)], args := [d1, d2] }
  | _ => none }
def FnExactMergeVisitsWrongFalsely : Prop := fnExactMergeVisitsRow.holds Try.pinned (OpenSpec.ofChange fnExactMergeVisitsWrong)

/-- 'laws.FnExactBestCustomers': WHATEVER THE INPUT: true; the input reads as it did. -/
def fnExactBestCustomersSpec : ChangeSpec := { name := "fnExactBestCustomers", fn := fun _ => fun
  | [d1, d2] => { results := [.lit (.bool true)], args := [d1, d2] }
  | _ => none }
def fnExactBestCustomersRow : OpenClaim := { program := "ytjeklbhdngkngaa", sum := "24d6204ff618b0723cde416db9073d9823da0491d54481cc432d96c86e3168bc", func := "loop.example/g01061/laws.FnExactBestCustomers", spec := "fnExactBestCustomers", unfollowed := true, recurses := true, apart := false }
def FnExactBestCustomersSaid : Prop := fnExactBestCustomersRow.holds Try.pinned (OpenSpec.ofChange fnExactBestCustomersSpec)

/-- ITS FALSE NEIGHBOUR: 'it returns false'. Refute it at one input. -/
def fnExactBestCustomersWrong : ChangeSpec := { name := "fnExactBestCustomers", fn := fun _ => fun
  | [d1, d2] => { results := [.lit (.bool false)], args := [d1, d2] }
  | _ => none }
def FnExactBestCustomersWrongFalsely : Prop := fnExactBestCustomersRow.holds Try.pinned (OpenSpec.ofChange fnExactBestCustomersWrong)

/-- 'laws.FnVisits': WHATEVER THE INPUT: true; the input reads as it did. -/
def fnVisitsSpec : ChangeSpec := { name := "fnVisits", fn := fun _ => fun
  | [d1, d2] => { results := [.lit (.bool true)], args := [d1, d2] }
  | _ => none }
def fnVisitsRow : OpenClaim := { program := "ytjeklbhdngkngaa", sum := "24d6204ff618b0723cde416db9073d9823da0491d54481cc432d96c86e3168bc", func := "loop.example/g01061/laws.FnVisits", spec := "fnVisits", unfollowed := true, recurses := true, apart := false }
def FnVisitsSaid : Prop := fnVisitsRow.holds Try.pinned (OpenSpec.ofChange fnVisitsSpec)

/-- ITS FALSE NEIGHBOUR: 'it returns false'. Refute it at one input. -/
def fnVisitsWrong : ChangeSpec := { name := "fnVisits", fn := fun _ => fun
  | [d1, d2] => { results := [.lit (.bool false)], args := [d1, d2] }
  | _ => none }
def FnVisitsWrongFalsely : Prop := fnVisitsRow.holds Try.pinned (OpenSpec.ofChange fnVisitsWrong)

/-- 'laws.FnExactPutGood': WHATEVER THE INPUT: true; the input reads as it did. -/
def fnExactPutGoodSpec : ChangeSpec := { name := "fnExactPutGood", fn := fun _ => fun
  | [d1, d2] => { results := [.lit (.bool true)], args := [d1, d2] }
  | _ => none }
def fnExactPutGoodRow : OpenClaim := { program := "ytjeklbhdngkngaa", sum := "24d6204ff618b0723cde416db9073d9823da0491d54481cc432d96c86e3168bc", func := "loop.example/g01061/laws.FnExactPutGood", spec := "fnExactPutGood", inPlace := ["slices.overlaps[loop.example/g01061/impl.Good]"], unfollowed := true, recurses := true, apart := false }
def FnExactPutGoodSaid : Prop := fnExactPutGoodRow.holds Try.pinned (OpenSpec.ofChange fnExactPutGoodSpec)

/-- ITS FALSE NEIGHBOUR: 'it returns false'. Refute it at one input. -/
def fnExactPutGoodWrong : ChangeSpec := { name := "fnExactPutGood", fn := fun _ => fun
  | [d1, d2] => { results := [.lit (.bool false)], args := [d1, d2] }
  | _ => none }
def FnExactPutGoodWrongFalsely : Prop := fnExactPutGoodRow.holds Try.pinned (OpenSpec.ofChange fnExactPutGoodWrong)

/- THE SECOND FORM. 'bulk': how many values and letters a reading holds, each counted each time it is reached (what is shared counts as often as it is met; a slice's spare places count too). A statement '..UptoSaid' is the law's where the arguments, and the package variables that the reading takes, are together of bulk at most 1048576: NARROWER than '..Said'. Prove '..Said' where nothing that the law and all that it calls make is longer than what came in: it says more and counts as full. Else prove '..UptoSaid'. A law counts once. -/
mutual
def uptoBulk {H : Type} : DataW H → Nat
  | .lit (.string bytes) => bytes.length + 1
  | .lit _ => 1
  | .nil => 1
  | .ptr d => uptoBulk d + 1
  | .slice elems spare => uptoBulkAll elems + uptoBulkAll spare + 1
  | .agg parts => uptoBulkAll parts + 1
  | .iface _ d => uptoBulk d + 1
  | .map entries => uptoBulkEntries entries + 1
  | .held _ => 1
def uptoBulkAll {H : Type} : List (DataW H) → Nat
  | [] => 0
  | d :: r => uptoBulk d + uptoBulkAll r
def uptoBulkEntries {H : Type} : List (Lit × DataW H) → Nat
  | [] => 0
  | x :: r => uptoBulkEntry x + uptoBulkEntries r
def uptoBulkEntry {H : Type} : Lit × DataW H → Nat
  | (.string bytes, d) => bytes.length + uptoBulk d + 1
  | (_, d) => uptoBulk d + 1
 end
def uptoSmall : (H : Type) → List (DataW H) → Bool := fun _ ds => decide (uptoBulkAll ds ≤ 1048576)
def OpenSpec.upto (s : _root_.Go.ChangeSpec) : _root_.Go.OpenSpec := { _root_.Go.OpenSpec.ofChange s with cond := some uptoSmall }

/-- 'laws.FnExactMergeStates', WHERE WHAT IT READS IS OF BULK AT MOST 1048576: true; the input reads as it did. -/
def fnExactMergeStatesUptoRow : OpenClaim := { program := "ytjeklbhdngkngaa", sum := "24d6204ff618b0723cde416db9073d9823da0491d54481cc432d96c86e3168bc", func := "loop.example/g01061/laws.FnExactMergeStates", spec := "fnExactMergeStates", unfollowed := true, recurses := true, apart := false, narrowed := true }
def FnExactMergeStatesUptoSaid : Prop := fnExactMergeStatesUptoRow.holds Try.pinned (OpenSpec.upto fnExactMergeStatesSpec)

/-- 'laws.FnExactApplyChanges', WHERE WHAT IT READS IS OF BULK AT MOST 1048576: true; the input reads as it did. -/
def fnExactApplyChangesUptoRow : OpenClaim := { program := "ytjeklbhdngkngaa", sum := "24d6204ff618b0723cde416db9073d9823da0491d54481cc432d96c86e3168bc", func := "loop.example/g01061/laws.FnExactApplyChanges", spec := "fnExactApplyChanges", inPlace := ["slices.overlaps[loop.example/g01061/impl.Setting]"], apart := false, narrowed := true }
def FnExactApplyChangesUptoSaid : Prop := fnExactApplyChangesUptoRow.holds Try.pinned (OpenSpec.upto fnExactApplyChangesSpec)

/-- 'laws.FnExactCommitState', WHERE WHAT IT READS IS OF BULK AT MOST 1048576: true; the input reads as it did. -/
def fnExactCommitStateUptoRow : OpenClaim := { program := "ytjeklbhdngkngaa", sum := "24d6204ff618b0723cde416db9073d9823da0491d54481cc432d96c86e3168bc", func := "loop.example/g01061/laws.FnExactCommitState", spec := "fnExactCommitState", apart := false, narrowed := true }
def FnExactCommitStateUptoSaid : Prop := fnExactCommitStateUptoRow.holds Try.pinned (OpenSpec.upto fnExactCommitStateSpec)

/-- 'laws.FnExactMergeVisits', WHERE WHAT IT READS IS OF BULK AT MOST 1048576: true; the input reads as it did. -/
def fnExactMergeVisitsUptoRow : OpenClaim := { program := "ytjeklbhdngkngaa", sum := "24d6204ff618b0723cde416db9073d9823da0491d54481cc432d96c86e3168bc", func := "loop.example/g01061/laws.FnExactMergeVisits", spec := "fnExactMergeVisits", unfollowed := true, recurses := true, apart := false, narrowed := true }
def FnExactMergeVisitsUptoSaid : Prop := fnExactMergeVisitsUptoRow.holds Try.pinned (OpenSpec.upto fnExactMergeVisitsSpec)

/-- 'laws.FnExactBestCustomers', WHERE WHAT IT READS IS OF BULK AT MOST 1048576: true; the input reads as it did. -/
def fnExactBestCustomersUptoRow : OpenClaim := { program := "ytjeklbhdngkngaa", sum := "24d6204ff618b0723cde416db9073d9823da0491d54481cc432d96c86e3168bc", func := "loop.example/g01061/laws.FnExactBestCustomers", spec := "fnExactBestCustomers", unfollowed := true, recurses := true, apart := false, narrowed := true }
def FnExactBestCustomersUptoSaid : Prop := fnExactBestCustomersUptoRow.holds Try.pinned (OpenSpec.upto fnExactBestCustomersSpec)

/-- 'laws.FnVisits', WHERE WHAT IT READS IS OF BULK AT MOST 1048576: true; the input reads as it did. -/
def fnVisitsUptoRow : OpenClaim := { program := "ytjeklbhdngkngaa", sum := "24d6204ff618b0723cde416db9073d9823da0491d54481cc432d96c86e3168bc", func := "loop.example/g01061/laws.FnVisits", spec := "fnVisits", unfollowed := true, recurses := true, apart := false, narrowed := true }
def FnVisitsUptoSaid : Prop := fnVisitsUptoRow.holds Try.pinned (OpenSpec.upto fnVisitsSpec)

/-- 'laws.FnExactPutGood', WHERE WHAT IT READS IS OF BULK AT MOST 1048576: true; the input reads as it did. -/
def fnExactPutGoodUptoRow : OpenClaim := { program := "ytjeklbhdngkngaa", sum := "24d6204ff618b0723cde416db9073d9823da0491d54481cc432d96c86e3168bc", func := "loop.example/g01061/laws.FnExactPutGood", spec := "fnExactPutGood", inPlace := ["slices.overlaps[loop.example/g01061/impl.Good]"], unfollowed := true, recurses := true, apart := false, narrowed := true }
def FnExactPutGoodUptoSaid : Prop := fnExactPutGoodUptoRow.holds Try.pinned (OpenSpec.upto fnExactPutGoodSpec)

end Rows
end Go.Proofs.Ytjeklbhdngkngaa
