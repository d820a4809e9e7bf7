/-
  No cell of these rows narrows 'for every input' (looked for: loops, veiled, ifaces, maps, wideKeys, modest, calm, conditions, laid).
  DERIVED. THE GIVEN ROWS OF THIS SEAT. 12 by the template 'for every input the law returns true; each argument reads behind the call as it read before'; 0 by the template 'total and deterministic' (their statements: YtfagfohcbdlaeaaTotals.lean).
  GIVEN WITH THE SEED: the statements are not yours to turn. If you find one false, say at which input.
  Laid BY PROGRAM, IN A SANDBOX (cutbox-rows.mjs): the forced cells as the released guide's own fill.sh prints them over the translation 74f7a2bbb1f78eec… (all of the seat's roots in one cut). By AI agents, Wed Nov 11 2026. No macro, syntax, notation, axiom, sorry.
-/
import Derived.Test.YtfagfohcbdlaeaaChecked
import GoSem.Claim
import GoSem.ClaimJoined
import GoSem.ClaimMapViews
import Derived.JoinedTies
import Derived.KernelRfl
namespace Go.Proofs.Ytfagfohcbdlaeaa
/- THE CELL 'sum', in the pinned program and in every row, IS THE sha256 OF THE DUMP (.gsa) THAT YtfagfohcbdlaeaaProg.lean LOADS. Nothing in Lean hashes anything: it is a label: what it is worth is what the hold of that sum in a sandbox is worth. -/
noncomputable def Try.pinned : Pinned := { name := "ytfagfohcbdlaeaa", sum := "74f7a2bbb1f78eec61828fedc914c6d3c4a95c21e0f419ef2fb53b63f80d4d5f", checked := Try.checked }
namespace Rows
def none {H : Type} : Left H := { results := [], args := [] }

/-- 'laws.FnExactOwnersOf': WHATEVER THE INPUT: true; the input reads as it did. -/
def fnExactOwnersOfSpec : ChangeSpec := { name := "fnExactOwnersOf", fn := fun _ => fun
  | [d] => { results := [.lit (.bool true)], args := [d] }
  | _ => none }
def fnExactOwnersOfRow : OpenClaim := { program := "ytfagfohcbdlaeaa", sum := "74f7a2bbb1f78eec61828fedc914c6d3c4a95c21e0f419ef2fb53b63f80d4d5f", func := "loop.example/g01061/laws.FnExactOwnersOf", spec := "fnExactOwnersOf", recurses := true, apart := false }
def FnExactOwnersOfSaid : Prop := fnExactOwnersOfRow.holds Try.pinned (OpenSpec.ofChange fnExactOwnersOfSpec)

/-- ITS FALSE NEIGHBOUR: 'it returns false'. Refute it at one input. -/
def fnExactOwnersOfWrong : ChangeSpec := { name := "fnExactOwnersOf", fn := fun _ => fun
  | [d] => { results := [.lit (.bool false)], args := [d] }
  | _ => none }
def FnExactOwnersOfWrongFalsely : Prop := fnExactOwnersOfRow.holds Try.pinned (OpenSpec.ofChange fnExactOwnersOfWrong)

/-- 'laws.FnExactCustomersOf': WHATEVER THE INPUT: true; the input reads as it did. -/
def fnExactCustomersOfSpec : ChangeSpec := { name := "fnExactCustomersOf", fn := fun _ => fun
  | [d] => { results := [.lit (.bool true)], args := [d] }
  | _ => none }
def fnExactCustomersOfRow : OpenClaim := { program := "ytfagfohcbdlaeaa", sum := "74f7a2bbb1f78eec61828fedc914c6d3c4a95c21e0f419ef2fb53b63f80d4d5f", func := "loop.example/g01061/laws.FnExactCustomersOf", spec := "fnExactCustomersOf", recurses := true, apart := false }
def FnExactCustomersOfSaid : Prop := fnExactCustomersOfRow.holds Try.pinned (OpenSpec.ofChange fnExactCustomersOfSpec)

/-- ITS FALSE NEIGHBOUR: 'it returns false'. Refute it at one input. -/
def fnExactCustomersOfWrong : ChangeSpec := { name := "fnExactCustomersOf", fn := fun _ => fun
  | [d] => { results := [.lit (.bool false)], args := [d] }
  | _ => none }
def FnExactCustomersOfWrongFalsely : Prop := fnExactCustomersOfRow.holds Try.pinned (OpenSpec.ofChange fnExactCustomersOfWrong)

/-- 'laws.FnExactFirstOwners': WHATEVER THE INPUT: true; the input reads as it did. -/
def fnExactFirstOwnersSpec : ChangeSpec := { name := "fnExactFirstOwners", fn := fun _ => fun
  | [d] => { results := [.lit (.bool true)], args := [d] }
  | _ => none }
def fnExactFirstOwnersRow : OpenClaim := { program := "ytfagfohcbdlaeaa", sum := "74f7a2bbb1f78eec61828fedc914c6d3c4a95c21e0f419ef2fb53b63f80d4d5f", func := "loop.example/g01061/laws.FnExactFirstOwners", spec := "fnExactFirstOwners", unfollowed := true, recurses := true, apart := false }
def FnExactFirstOwnersSaid : Prop := fnExactFirstOwnersRow.holds Try.pinned (OpenSpec.ofChange fnExactFirstOwnersSpec)

/-- ITS FALSE NEIGHBOUR: 'it returns false'. Refute it at one input. -/
def fnExactFirstOwnersWrong : ChangeSpec := { name := "fnExactFirstOwners", fn := fun _ => fun
  | [d] => { results := [.lit (.bool false)], args := [d] }
  | _ => none }
def FnExactFirstOwnersWrongFalsely : Prop := fnExactFirstOwnersRow.holds Try.pinned (OpenSpec.ofChange fnExactFirstOwnersWrong)

/-- 'laws.FnExactReachedOwners': WHATEVER THE INPUT: true; the input reads as it did. -/
def fnExactReachedOwnersSpec : ChangeSpec := { name := "fnExactReachedOwners", fn := fun _ => fun
  | [d1, d2] => { results := [.lit (.bool true)], args := [d1, d2] }
  | _ => none }
def fnExactReachedOwnersRow : OpenClaim := { program := "ytfagfohcbdlaeaa", sum := "74f7a2bbb1f78eec61828fedc914c6d3c4a95c21e0f419ef2fb53b63f80d4d5f", func := "loop.example/g01061/laws.FnExactReachedOwners", spec := "fnExactReachedOwners", recurses := true, apart := false }
def FnExactReachedOwnersSaid : Prop := fnExactReachedOwnersRow.holds Try.pinned (OpenSpec.ofChange fnExactReachedOwnersSpec)

/-- ITS FALSE NEIGHBOUR: 'it returns false'. Refute it at one input. -/
def fnExactReachedOwnersWrong : ChangeSpec := { name := "fnExactReachedOwners", fn := fun _ => fun
  | [d1, d2] => { results := [.lit (.bool false)], args := [d1, d2] }
  | _ => none }
def FnExactReachedOwnersWrongFalsely : Prop := fnExactReachedOwnersRow.holds Try.pinned (OpenSpec.ofChange fnExactReachedOwnersWrong)

/-- 'laws.FnExactTrustBy': WHATEVER THE INPUT: true; the input reads as it did. -/
def fnExactTrustBySpec : ChangeSpec := { name := "fnExactTrustBy", fn := fun _ => fun
  | [d] => { results := [.lit (.bool true)], args := [d] }
  | _ => none }
def fnExactTrustByRow : OpenClaim := { program := "ytfagfohcbdlaeaa", sum := "74f7a2bbb1f78eec61828fedc914c6d3c4a95c21e0f419ef2fb53b63f80d4d5f", func := "loop.example/g01061/laws.FnExactTrustBy", spec := "fnExactTrustBy", recurses := true, apart := false }
def FnExactTrustBySaid : Prop := fnExactTrustByRow.holds Try.pinned (OpenSpec.ofChange fnExactTrustBySpec)

/-- ITS FALSE NEIGHBOUR: 'it returns false'. Refute it at one input. -/
def fnExactTrustByWrong : ChangeSpec := { name := "fnExactTrustBy", fn := fun _ => fun
  | [d] => { results := [.lit (.bool false)], args := [d] }
  | _ => none }
def FnExactTrustByWrongFalsely : Prop := fnExactTrustByRow.holds Try.pinned (OpenSpec.ofChange fnExactTrustByWrong)

/-- 'laws.FnExactMissedCustomers': WHATEVER THE INPUT: true; the input reads as it did. -/
def fnExactMissedCustomersSpec : ChangeSpec := { name := "fnExactMissedCustomers", fn := fun _ => fun
  | [d1, d2, d3] => { results := [.lit (.bool true)], args := [d1, d2, d3] }
  | _ => none }
def fnExactMissedCustomersRow : OpenClaim := { program := "ytfagfohcbdlaeaa", sum := "74f7a2bbb1f78eec61828fedc914c6d3c4a95c21e0f419ef2fb53b63f80d4d5f", func := "loop.example/g01061/laws.FnExactMissedCustomers", spec := "fnExactMissedCustomers", unfollowed := true, recurses := true, apart := false }
def FnExactMissedCustomersSaid : Prop := fnExactMissedCustomersRow.holds Try.pinned (OpenSpec.ofChange fnExactMissedCustomersSpec)

/-- ITS FALSE NEIGHBOUR: 'it returns false'. Refute it at one input. -/
def fnExactMissedCustomersWrong : ChangeSpec := { name := "fnExactMissedCustomers", fn := fun _ => fun
  | [d1, d2, d3] => { results := [.lit (.bool false)], args := [d1, d2, d3] }
  | _ => none }
def FnExactMissedCustomersWrongFalsely : Prop := fnExactMissedCustomersRow.holds Try.pinned (OpenSpec.ofChange fnExactMissedCustomersWrong)

/-- 'laws.FnExactConflictsOf': WHATEVER THE INPUT: true; the input reads as it did. -/
def fnExactConflictsOfSpec : ChangeSpec := { name := "fnExactConflictsOf", fn := fun _ => fun
  | [d1, d2, d3] => { results := [.lit (.bool true)], args := [d1, d2, d3] }
  | _ => none }
def fnExactConflictsOfRow : OpenClaim := { program := "ytfagfohcbdlaeaa", sum := "74f7a2bbb1f78eec61828fedc914c6d3c4a95c21e0f419ef2fb53b63f80d4d5f", func := "loop.example/g01061/laws.FnExactConflictsOf", spec := "fnExactConflictsOf", unfollowed := true, recurses := true, apart := false }
def FnExactConflictsOfSaid : Prop := fnExactConflictsOfRow.holds Try.pinned (OpenSpec.ofChange fnExactConflictsOfSpec)

/-- ITS FALSE NEIGHBOUR: 'it returns false'. Refute it at one input. -/
def fnExactConflictsOfWrong : ChangeSpec := { name := "fnExactConflictsOf", fn := fun _ => fun
  | [d1, d2, d3] => { results := [.lit (.bool false)], args := [d1, d2, d3] }
  | _ => none }
def FnExactConflictsOfWrongFalsely : Prop := fnExactConflictsOfRow.holds Try.pinned (OpenSpec.ofChange fnExactConflictsOfWrong)

/-- 'laws.FnExactTrialBalance': WHATEVER THE INPUT: true; the input reads as it did. -/
def fnExactTrialBalanceSpec : ChangeSpec := { name := "fnExactTrialBalance", fn := fun _ => fun
  | [d] => { results := [.lit (.bool true)], args := [d] }
  | _ => none }
def fnExactTrialBalanceRow : OpenClaim := { program := "ytfagfohcbdlaeaa", sum := "74f7a2bbb1f78eec61828fedc914c6d3c4a95c21e0f419ef2fb53b63f80d4d5f", func := "loop.example/g01061/laws.FnExactTrialBalance", spec := "fnExactTrialBalance", recurses := true, apart := false }
def FnExactTrialBalanceSaid : Prop := fnExactTrialBalanceRow.holds Try.pinned (OpenSpec.ofChange fnExactTrialBalanceSpec)

/-- ITS FALSE NEIGHBOUR: 'it returns false'. Refute it at one input. -/
def fnExactTrialBalanceWrong : ChangeSpec := { name := "fnExactTrialBalance", fn := fun _ => fun
  | [d] => { results := [.lit (.bool false)], args := [d] }
  | _ => none }
def FnExactTrialBalanceWrongFalsely : Prop := fnExactTrialBalanceRow.holds Try.pinned (OpenSpec.ofChange fnExactTrialBalanceWrong)

/-- 'laws.FnExactMergeStates': WHATEVER THE INPUT: true; the input reads as it did. -/
def fnExactMergeStatesSpec : ChangeSpec := { name := "fnExactMergeStates", fn := fun _ => fun
  | [d1, d2, d3] => { results := [.lit (.bool true)], args := [d1, d2, d3] }
  | _ => none }
def fnExactMergeStatesRow : OpenClaim := { program := "ytfagfohcbdlaeaa", sum := "74f7a2bbb1f78eec61828fedc914c6d3c4a95c21e0f419ef2fb53b63f80d4d5f", func := "loop.example/g01061/laws.FnExactMergeStates", spec := "fnExactMergeStates", unfollowed := true, recurses := true, apart := false }
def FnExactMergeStatesSaid : Prop := fnExactMergeStatesRow.holds Try.pinned (OpenSpec.ofChange fnExactMergeStatesSpec)

/-- ITS FALSE NEIGHBOUR: 'it returns false'. Refute it at one input. -/
def fnExactMergeStatesWrong : ChangeSpec := { name := "fnExactMergeStates", fn := fun _ => fun
  | [d1, d2, d3] => { results := [.lit (.bool false)], args := [d1, d2, d3] }
  | _ => none }
def FnExactMergeStatesWrongFalsely : Prop := fnExactMergeStatesRow.holds Try.pinned (OpenSpec.ofChange fnExactMergeStatesWrong)

/-- 'laws.FnVisits': WHATEVER THE INPUT: true; the input reads as it did. -/
def fnVisitsSpec : ChangeSpec := { name := "fnVisits", fn := fun _ => fun
  | [d1, d2] => { results := [.lit (.bool true)], args := [d1, d2] }
  | _ => none }
def fnVisitsRow : OpenClaim := { program := "ytfagfohcbdlaeaa", sum := "74f7a2bbb1f78eec61828fedc914c6d3c4a95c21e0f419ef2fb53b63f80d4d5f", func := "loop.example/g01061/laws.FnVisits", spec := "fnVisits", unfollowed := true, recurses := true, apart := false }
def FnVisitsSaid : Prop := fnVisitsRow.holds Try.pinned (OpenSpec.ofChange fnVisitsSpec)

/-- ITS FALSE NEIGHBOUR: 'it returns false'. Refute it at one input. -/
def fnVisitsWrong : ChangeSpec := { name := "fnVisits", fn := fun _ => fun
  | [d1, d2] => { results := [.lit (.bool false)], args := [d1, d2] }
  | _ => none }
def FnVisitsWrongFalsely : Prop := fnVisitsRow.holds Try.pinned (OpenSpec.ofChange fnVisitsWrong)

/-- 'laws.FnExactBestCustomers': WHATEVER THE INPUT: true; the input reads as it did. -/
def fnExactBestCustomersSpec : ChangeSpec := { name := "fnExactBestCustomers", fn := fun _ => fun
  | [d1, d2] => { results := [.lit (.bool true)], args := [d1, d2] }
  | _ => none }
def fnExactBestCustomersRow : OpenClaim := { program := "ytfagfohcbdlaeaa", sum := "74f7a2bbb1f78eec61828fedc914c6d3c4a95c21e0f419ef2fb53b63f80d4d5f", func := "loop.example/g01061/laws.FnExactBestCustomers", spec := "fnExactBestCustomers", unfollowed := true, recurses := true, apart := false }
def FnExactBestCustomersSaid : Prop := fnExactBestCustomersRow.holds Try.pinned (OpenSpec.ofChange fnExactBestCustomersSpec)

/-- ITS FALSE NEIGHBOUR: 'it returns false'. Refute it at one input. -/
def fnExactBestCustomersWrong : ChangeSpec := { name := "fnExactBestCustomers", fn := fun _ => fun
  | [d1, d2] => { results := [.lit (.bool false)], args := [d1, d2] }
  | _ => none }
def FnExactBestCustomersWrongFalsely : Prop := fnExactBestCustomersRow.holds Try.pinned (OpenSpec.ofChange fnExactBestCustomersWrong)

/-- 'laws.FnExactMergeVisits': WHATEVER THE INPUT: true; the input reads as it did. -/
def fnExactMergeVisitsSpec : ChangeSpec := { name := "fnExactMergeVisits", fn := fun _ => fun
  | [d1, d2] => { results := [.lit (.bool true)], args := [d1, d2] }
  | _ => none }
def fnExactMergeVisitsRow : OpenClaim := { program := "ytfagfohcbdlaeaa", sum := "74f7a2bbb1f78eec61828fedc914c6d3c4a95c21e0f419ef2fb53b63f80d4d5f", func := "loop.example/g01061/laws.FnExactMergeVisits", spec := "fnExactMergeVisits", unfollowed := true, recurses := true, apart := false }
def FnExactMergeVisitsSaid : Prop := fnExactMergeVisitsRow.holds Try.pinned (OpenSpec.ofChange fnExactMergeVisitsSpec)

/-- ITS FALSE NEIGHBOUR: 'it returns false'. Refute it at one input. -/
def fnExactMergeVisitsWrong : ChangeSpec := { name := "fnExactMergeVisits", fn := fun _ => fun
  | [d1, d2] => { results := [.lit (.bool false)], args := [d1, d2] }
  | _ => none }
def FnExactMergeVisitsWrongFalsely : Prop := fnExactMergeVisitsRow.holds Try.pinned (OpenSpec.ofChange fnExactMergeVisitsWrong)

/- THE SECOND FORM. 'bulk': how many values and letters a reading holds, each counted each time it is reached (what is shared counts as often as it is met; a slice's spare places count too). A statement '..UptoSaid' is the law's where the arguments, and the package variables that the reading takes, are together of bulk at most 1048576: NARROWER than '..Said'. Prove '..Said' where nothing that the law and all that it calls make is longer than what came in: it says more and counts as full. Else prove '..UptoSaid'. A law counts once. -/
mutual
def uptoBulk {H : Type} : DataW H → Nat
  | .lit (.string bytes) => bytes.length + 1
  | .lit _ => 1
  | .nil => 1
  | .ptr d => uptoBulk d + 1
  | .slice elems spare => uptoBulkAll elems + uptoBulkAll spare + 1
  | .agg parts => uptoBulkAll parts + 1
  | .iface _ d => uptoBulk d + 1
  | .map entries => uptoBulkEntries entries + 1
  | .held _ => 1
def uptoBulkAll {H : Type} : List (DataW H) → Nat
  | [] => 0
  | d :: r => uptoBulk d + uptoBulkAll r
def uptoBulkEntries {H : Type} : List (Lit × DataW H) → Nat
  | [] => 0
  | x :: r => uptoBulkEntry x + uptoBulkEntries r
def uptoBulkEntry {H : Type} : Lit × DataW H → Nat
  | (.string bytes, d) => bytes.length + uptoBulk d + 1
  | (_, d) => uptoBulk d + 1
 end
def uptoSmall : (H : Type) → List (DataW H) → Bool := fun _ ds => decide (uptoBulkAll ds ≤ 1048576)
def OpenSpec.upto (s : _root_.Go.ChangeSpec) : _root_.Go.OpenSpec := { _root_.Go.OpenSpec.ofChange s with cond := some uptoSmall }

/-- 'laws.FnExactOwnersOf', WHERE WHAT IT READS IS OF BULK AT MOST 1048576: true; the input reads as it did. -/
def fnExactOwnersOfUptoRow : OpenClaim := { program := "ytfagfohcbdlaeaa", sum := "74f7a2bbb1f78eec61828fedc914c6d3c4a95c21e0f419ef2fb53b63f80d4d5f", func := "loop.example/g01061/laws.FnExactOwnersOf", spec := "fnExactOwnersOf", recurses := true, apart := false, narrowed := true }
def FnExactOwnersOfUptoSaid : Prop := fnExactOwnersOfUptoRow.holds Try.pinned (OpenSpec.upto fnExactOwnersOfSpec)

/-- 'laws.FnExactCustomersOf', WHERE WHAT IT READS IS OF BULK AT MOST 1048576: true; the input reads as it did. -/
def fnExactCustomersOfUptoRow : OpenClaim := { program := "ytfagfohcbdlaeaa", sum := "74f7a2bbb1f78eec61828fedc914c6d3c4a95c21e0f419ef2fb53b63f80d4d5f", func := "loop.example/g01061/laws.FnExactCustomersOf", spec := "fnExactCustomersOf", recurses := true, apart := false, narrowed := true }
def FnExactCustomersOfUptoSaid : Prop := fnExactCustomersOfUptoRow.holds Try.pinned (OpenSpec.upto fnExactCustomersOfSpec)

/-- 'laws.FnExactFirstOwners', WHERE WHAT IT READS IS OF BULK AT MOST 1048576: true; the input reads as it did. -/
def fnExactFirstOwnersUptoRow : OpenClaim := { program := "ytfagfohcbdlaeaa", sum := "74f7a2bbb1f78eec61828fedc914c6d3c4a95c21e0f419ef2fb53b63f80d4d5f", func := "loop.example/g01061/laws.FnExactFirstOwners", spec := "fnExactFirstOwners", unfollowed := true, recurses := true, apart := false, narrowed := true }
def FnExactFirstOwnersUptoSaid : Prop := fnExactFirstOwnersUptoRow.holds Try.pinned (OpenSpec.upto fnExactFirstOwnersSpec)

/-- 'laws.FnExactReachedOwners', WHERE WHAT IT READS IS OF BULK AT MOST 1048576: true; the input reads as it did. -/
def fnExactReachedOwnersUptoRow : OpenClaim := { program := "ytfagfohcbdlaeaa", sum := "74f7a2bbb1f78eec61828fedc914c6d3c4a95c21e0f419ef2fb53b63f80d4d5f", func := "loop.example/g01061/laws.FnExactReachedOwners", spec := "fnExactReachedOwners", recurses := true, apart := false, narrowed := true }
def FnExactReachedOwnersUptoSaid : Prop := fnExactReachedOwnersUptoRow.holds Try.pinned (OpenSpec.upto fnExactReachedOwnersSpec)

/-- 'laws.FnExactTrustBy', WHERE WHAT IT READS IS OF BULK AT MOST 1048576: true; the input reads as it did. -/
def fnExactTrustByUptoRow : OpenClaim := { program := "ytfagfohcbdlaeaa", sum := "74f7a2bbb1f78eec61828fedc914c6d3c4a95c21e0f419ef2fb53b63f80d4d5f", func := "loop.example/g01061/laws.FnExactTrustBy", spec := "fnExactTrustBy", recurses := true, apart := false, narrowed := true }
def FnExactTrustByUptoSaid : Prop := fnExactTrustByUptoRow.holds Try.pinned (OpenSpec.upto fnExactTrustBySpec)

/-- 'laws.FnExactMissedCustomers', WHERE WHAT IT READS IS OF BULK AT MOST 1048576: true; the input reads as it did. -/
def fnExactMissedCustomersUptoRow : OpenClaim := { program := "ytfagfohcbdlaeaa", sum := "74f7a2bbb1f78eec61828fedc914c6d3c4a95c21e0f419ef2fb53b63f80d4d5f", func := "loop.example/g01061/laws.FnExactMissedCustomers", spec := "fnExactMissedCustomers", unfollowed := true, recurses := true, apart := false, narrowed := true }
def FnExactMissedCustomersUptoSaid : Prop := fnExactMissedCustomersUptoRow.holds Try.pinned (OpenSpec.upto fnExactMissedCustomersSpec)

/-- 'laws.FnExactConflictsOf', WHERE WHAT IT READS IS OF BULK AT MOST 1048576: true; the input reads as it did. -/
def fnExactConflictsOfUptoRow : OpenClaim := { program := "ytfagfohcbdlaeaa", sum := "74f7a2bbb1f78eec61828fedc914c6d3c4a95c21e0f419ef2fb53b63f80d4d5f", func := "loop.example/g01061/laws.FnExactConflictsOf", spec := "fnExactConflictsOf", unfollowed := true, recurses := true, apart := false, narrowed := true }
def FnExactConflictsOfUptoSaid : Prop := fnExactConflictsOfUptoRow.holds Try.pinned (OpenSpec.upto fnExactConflictsOfSpec)

/-- 'laws.FnExactTrialBalance', WHERE WHAT IT READS IS OF BULK AT MOST 1048576: true; the input reads as it did. -/
def fnExactTrialBalanceUptoRow : OpenClaim := { program := "ytfagfohcbdlaeaa", sum := "74f7a2bbb1f78eec61828fedc914c6d3c4a95c21e0f419ef2fb53b63f80d4d5f", func := "loop.example/g01061/laws.FnExactTrialBalance", spec := "fnExactTrialBalance", recurses := true, apart := false, narrowed := true }
def FnExactTrialBalanceUptoSaid : Prop := fnExactTrialBalanceUptoRow.holds Try.pinned (OpenSpec.upto fnExactTrialBalanceSpec)

/-- 'laws.FnExactMergeStates', WHERE WHAT IT READS IS OF BULK AT MOST 1048576: true; the input reads as it did. -/
def fnExactMergeStatesUptoRow : OpenClaim := { program := "ytfagfohcbdlaeaa", sum := "74f7a2bbb1f78eec61828fedc914c6d3c4a95c21e0f419ef2fb53b63f80d4d5f", func := "loop.example/g01061/laws.FnExactMergeStates", spec := "fnExactMergeStates", unfollowed := true, recurses := true, apart := false, narrowed := true }
def FnExactMergeStatesUptoSaid : Prop := fnExactMergeStatesUptoRow.holds Try.pinned (OpenSpec.upto fnExactMergeStatesSpec)

/-- 'laws.FnVisits', WHERE WHAT IT READS IS OF BULK AT MOST 1048576: true; the input reads as it did. -/
def fnVisitsUptoRow : OpenClaim := { program := "ytfagfohcbdlaeaa", sum := "74f7a2bbb1f78eec61828fedc914c6d3c4a95c21e0f419ef2fb53b63f80d4d5f", func := "loop.example/g01061/laws.FnVisits", spec := "fnVisits", unfollowed := true, recurses := true, apart := false, narrowed := true }
def FnVisitsUptoSaid : Prop := fnVisitsUptoRow.holds Try.pinned (OpenSpec.upto fnVisitsSpec)

/-- 'laws.FnExactBestCustomers', WHERE WHAT IT READS IS OF BULK AT MOST 1048576: true; the input reads as it did. -/
def fnExactBestCustomersUptoRow : OpenClaim := { program := "ytfagfohcbdlaeaa", sum := "74f7a2bbb1f78eec61828fedc914c6d3c4a95c21e0f419ef2fb53b63f80d4d5f", func := "loop.example/g01061/laws.FnExactBestCustomers", spec := "fnExactBestCustomers", unfollowed := true, recurses := true, apart := false, narrowed := true }
def FnExactBestCustomersUptoSaid : Prop := fnExactBestCustomersUptoRow.holds Try.pinned (OpenSpec.upto fnExactBestCustomersSpec)

/-- 'laws.FnExactMergeVisits', WHERE WHAT IT READS IS OF BULK AT MOST 1048576: true; the input reads as it did. -/
def fnExactMergeVisitsUptoRow : OpenClaim := { program := "ytfagfohcbdlaeaa", sum := "74f7a2bbb1f78eec61828fedc914c6d3c4a95c21e0f419ef2fb53b63f80d4d5f", func := "loop.example/g01061/laws.FnExactMergeVisits", spec := "fnExactMergeVisits", unfollowed := true, recurses := true, apart := false, narrowed := true }
def FnExactMergeVisitsUptoSaid : Prop := fnExactMergeVisitsUptoRow.holds Try.pinned (OpenSpec.upto fnExactMergeVisitsSpec)

end Rows
end Go.Proofs.Ytfagfohcbdlaeaa
