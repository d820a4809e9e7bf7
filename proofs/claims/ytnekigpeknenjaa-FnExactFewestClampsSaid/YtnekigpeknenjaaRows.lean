/-
  No cell of these rows narrows 'for every input' (looked for: loops, veiled, ifaces, maps, wideKeys, modest, calm, conditions, laid).
  DERIVED. THE GIVEN ROWS OF THIS SEAT. 12 by the template 'for every input the law returns true; each argument reads behind the call as it read before'; 0 by the template 'total and deterministic' (their statements: YtnekigpeknenjaaTotals.lean).
  GIVEN WITH THE SEED: the statements are not yours to turn. If you find one false, say at which input.
  Laid BY PROGRAM, IN A SANDBOX (cutbox-rows.mjs): the forced cells as the released guide's own fill.sh prints them over the translation 5e1d2446f392a6db… (all of the seat's roots in one cut). By AI agents, Wed Nov 11 2026. No macro, syntax, notation, axiom, sorry.
-/
import Derived.Test.YtnekigpeknenjaaChecked
import GoSem.Claim
import GoSem.ClaimJoined
import GoSem.ClaimMapViews
import Derived.JoinedTies
import Derived.KernelRfl
namespace Go.Proofs.Ytnekigpeknenjaa
/- THE CELL 'sum', in the pinned program and in every row, IS THE sha256 OF THE DUMP (.gsa) THAT YtnekigpeknenjaaProg.lean LOADS. Nothing in Lean hashes anything: it is a label: what it is worth is what the hold of that sum in a sandbox is worth. -/
noncomputable def Try.pinned : Pinned := { name := "ytnekigpeknenjaa", sum := "5e1d2446f392a6dbb07d23bf329580c7cd618dbe4beadbf295cd5c4363c48f8b", checked := Try.checked }
namespace Rows
def none {H : Type} : Left H := { results := [], args := [] }

/-- 'laws.FnExactColourAfter': WHATEVER THE INPUT: true; the input reads as it did. -/
def fnExactColourAfterSpec : ChangeSpec := { name := "fnExactColourAfter", fn := fun _ => fun
  | [d1, d2, d3] => { results := [.lit (.bool true)], args := [d1, d2, d3] }
  | _ => none }
def fnExactColourAfterRow : OpenClaim := { program := "ytnekigpeknenjaa", sum := "5e1d2446f392a6dbb07d23bf329580c7cd618dbe4beadbf295cd5c4363c48f8b", func := "loop.example/g01061/laws.FnExactColourAfter", spec := "fnExactColourAfter", apart := false }
def FnExactColourAfterSaid : Prop := fnExactColourAfterRow.holds Try.pinned (OpenSpec.ofChange fnExactColourAfterSpec)

/-- ITS FALSE NEIGHBOUR: 'it returns false'. Refute it at one input. -/
def fnExactColourAfterWrong : ChangeSpec := { name := "fnExactColourAfter", fn := fun _ => fun
  | [d1, d2, d3] => { results := [.lit (.bool false)], args := [d1, d2, d3] }
  | _ => none }
def FnExactColourAfterWrongFalsely : Prop := fnExactColourAfterRow.holds Try.pinned (OpenSpec.ofChange fnExactColourAfterWrong)

/-- 'laws.FnExactCommonAncestor': WHATEVER THE INPUT: true; the input reads as it did. -/
def fnExactCommonAncestorSpec : ChangeSpec := { name := "fnExactCommonAncestor", fn := fun _ => fun
  | [d1, d2, d3] => { results := [.lit (.bool true)], args := [d1, d2, d3] }
  | _ => none }
def fnExactCommonAncestorRow : OpenClaim := { program := "ytnekigpeknenjaa", sum := "5e1d2446f392a6dbb07d23bf329580c7cd618dbe4beadbf295cd5c4363c48f8b", func := "loop.example/g01061/laws.FnExactCommonAncestor", spec := "fnExactCommonAncestor", apart := false }
def FnExactCommonAncestorSaid : Prop := fnExactCommonAncestorRow.holds Try.pinned (OpenSpec.ofChange fnExactCommonAncestorSpec)

/-- ITS FALSE NEIGHBOUR: 'it returns false'. Refute it at one input. -/
def fnExactCommonAncestorWrong : ChangeSpec := { name := "fnExactCommonAncestor", fn := fun _ => fun
  | [d1, d2, d3] => { results := [.lit (.bool false)], args := [d1, d2, d3] }
  | _ => none }
def FnExactCommonAncestorWrongFalsely : Prop := fnExactCommonAncestorRow.holds Try.pinned (OpenSpec.ofChange fnExactCommonAncestorWrong)

/-- 'laws.FnExactReadyStacks': WHATEVER THE INPUT: true; the input reads as it did. -/
def fnExactReadyStacksSpec : ChangeSpec := { name := "fnExactReadyStacks", fn := fun _ => fun
  | [d1, d2, d3, d4] => { results := [.lit (.bool true)], args := [d1, d2, d3, d4] }
  | _ => none }
def fnExactReadyStacksRow : OpenClaim := { program := "ytnekigpeknenjaa", sum := "5e1d2446f392a6dbb07d23bf329580c7cd618dbe4beadbf295cd5c4363c48f8b", func := "loop.example/g01061/laws.FnExactReadyStacks", spec := "fnExactReadyStacks", apart := false }
def FnExactReadyStacksSaid : Prop := fnExactReadyStacksRow.holds Try.pinned (OpenSpec.ofChange fnExactReadyStacksSpec)

/-- ITS FALSE NEIGHBOUR: 'it returns false'. Refute it at one input. -/
def fnExactReadyStacksWrong : ChangeSpec := { name := "fnExactReadyStacks", fn := fun _ => fun
  | [d1, d2, d3, d4] => { results := [.lit (.bool false)], args := [d1, d2, d3, d4] }
  | _ => none }
def FnExactReadyStacksWrongFalsely : Prop := fnExactReadyStacksRow.holds Try.pinned (OpenSpec.ofChange fnExactReadyStacksWrong)

/-- 'laws.FnExactFewestClamps': WHATEVER THE INPUT: true; the input reads as it did. -/
def fnExactFewestClampsSpec : ChangeSpec := { name := "fnExactFewestClamps", fn := fun _ => fun
  | [d1, d2] => { results := [.lit (.bool true)], args := [d1, d2] }
  | _ => none }
def fnExactFewestClampsRow : OpenClaim := { program := "ytnekigpeknenjaa", sum := "5e1d2446f392a6dbb07d23bf329580c7cd618dbe4beadbf295cd5c4363c48f8b", func := "loop.example/g01061/laws.FnExactFewestClamps", spec := "fnExactFewestClamps", apart := false }
def FnExactFewestClampsSaid : Prop := fnExactFewestClampsRow.holds Try.pinned (OpenSpec.ofChange fnExactFewestClampsSpec)

/-- ITS FALSE NEIGHBOUR: 'it returns false'. Refute it at one input. -/
def fnExactFewestClampsWrong : ChangeSpec := { name := "fnExactFewestClamps", fn := fun _ => fun
  | [d1, d2] => { results := [.lit (.bool false)], args := [d1, d2] }
  | _ => none }
def FnExactFewestClampsWrongFalsely : Prop := fnExactFewestClampsRow.holds Try.pinned (OpenSpec.ofChange fnExactFewestClampsWrong)

/-- 'laws.FnExactLatestStarts': WHATEVER THE INPUT: true; the input reads as it did. -/
def fnExactLatestStartsSpec : ChangeSpec := { name := "fnExactLatestStarts", fn := fun _ => fun
  | [d] => { results := [.lit (.bool true)], args := [d] }
  | _ => none }
def fnExactLatestStartsRow : OpenClaim := { program := "ytnekigpeknenjaa", sum := "5e1d2446f392a6dbb07d23bf329580c7cd618dbe4beadbf295cd5c4363c48f8b", func := "loop.example/g01061/laws.FnExactLatestStarts", spec := "fnExactLatestStarts", apart := false }
def FnExactLatestStartsSaid : Prop := fnExactLatestStartsRow.holds Try.pinned (OpenSpec.ofChange fnExactLatestStartsSpec)

/-- ITS FALSE NEIGHBOUR: 'it returns false'. Refute it at one input. -/
def fnExactLatestStartsWrong : ChangeSpec := { name := "fnExactLatestStarts", fn := fun _ => fun
  | [d] => { results := [.lit (.bool false)], args := [d] }
  | _ => none }
def FnExactLatestStartsWrongFalsely : Prop := fnExactLatestStartsRow.holds Try.pinned (OpenSpec.ofChange fnExactLatestStartsWrong)

/-- 'laws.FnExactCriticalSteps': WHATEVER THE INPUT: true; the input reads as it did. -/
def fnExactCriticalStepsSpec : ChangeSpec := { name := "fnExactCriticalSteps", fn := fun _ => fun
  | [d] => { results := [.lit (.bool true)], args := [d] }
  | _ => none }
def fnExactCriticalStepsRow : OpenClaim := { program := "ytnekigpeknenjaa", sum := "5e1d2446f392a6dbb07d23bf329580c7cd618dbe4beadbf295cd5c4363c48f8b", func := "loop.example/g01061/laws.FnExactCriticalSteps", spec := "fnExactCriticalSteps", apart := false }
def FnExactCriticalStepsSaid : Prop := fnExactCriticalStepsRow.holds Try.pinned (OpenSpec.ofChange fnExactCriticalStepsSpec)

/-- ITS FALSE NEIGHBOUR: 'it returns false'. Refute it at one input. -/
def fnExactCriticalStepsWrong : ChangeSpec := { name := "fnExactCriticalSteps", fn := fun _ => fun
  | [d] => { results := [.lit (.bool false)], args := [d] }
  | _ => none }
def FnExactCriticalStepsWrongFalsely : Prop := fnExactCriticalStepsRow.holds Try.pinned (OpenSpec.ofChange fnExactCriticalStepsWrong)

/-- 'laws.FnExactWithClamps': WHATEVER THE INPUT: true; the input reads as it did. -/
def fnExactWithClampsSpec : ChangeSpec := { name := "fnExactWithClamps", fn := fun _ => fun
  | [d1, d2] => { results := [.lit (.bool true)], args := [d1, d2] }
  | _ => none }
def fnExactWithClampsRow : OpenClaim := { program := "ytnekigpeknenjaa", sum := "5e1d2446f392a6dbb07d23bf329580c7cd618dbe4beadbf295cd5c4363c48f8b", func := "loop.example/g01061/laws.FnExactWithClamps", spec := "fnExactWithClamps", apart := false }
def FnExactWithClampsSaid : Prop := fnExactWithClampsRow.holds Try.pinned (OpenSpec.ofChange fnExactWithClampsSpec)

/-- ITS FALSE NEIGHBOUR: 'it returns false'. Refute it at one input. -/
def fnExactWithClampsWrong : ChangeSpec := { name := "fnExactWithClamps", fn := fun _ => fun
  | [d1, d2] => { results := [.lit (.bool false)], args := [d1, d2] }
  | _ => none }
def FnExactWithClampsWrongFalsely : Prop := fnExactWithClampsRow.holds Try.pinned (OpenSpec.ofChange fnExactWithClampsWrong)

/-- 'laws.FnExactHeadsOf': WHATEVER THE INPUT: true; the input reads as it did. -/
def fnExactHeadsOfSpec : ChangeSpec := { name := "fnExactHeadsOf", fn := fun _ => fun
  | [d] => { results := [.lit (.bool true)], args := [d] }
  | _ => none }
def fnExactHeadsOfRow : OpenClaim := { program := "ytnekigpeknenjaa", sum := "5e1d2446f392a6dbb07d23bf329580c7cd618dbe4beadbf295cd5c4363c48f8b", func := "loop.example/g01061/laws.FnExactHeadsOf", spec := "fnExactHeadsOf", unfollowed := true, recurses := true, apart := false }
def FnExactHeadsOfSaid : Prop := fnExactHeadsOfRow.holds Try.pinned (OpenSpec.ofChange fnExactHeadsOfSpec)

/-- ITS FALSE NEIGHBOUR: 'it returns false'. Refute it at one input. -/
def fnExactHeadsOfWrong : ChangeSpec := { name := "fnExactHeadsOf", fn := fun _ => fun
  | [d] => { results := [.lit (.bool false)], args := [d] }
  | _ => none }
def FnExactHeadsOfWrongFalsely : Prop := fnExactHeadsOfRow.holds Try.pinned (OpenSpec.ofChange fnExactHeadsOfWrong)

/-- 'laws.FnExactAncestorsOf': WHATEVER THE INPUT: true; the input reads as it did. -/
def fnExactAncestorsOfSpec : ChangeSpec := { name := "fnExactAncestorsOf", fn := fun _ => fun
  | [d1, d2] => { results := [.lit (.bool true)], args := [d1, d2] }
  | _ => none }
def fnExactAncestorsOfRow : OpenClaim := { program := "ytnekigpeknenjaa", sum := "5e1d2446f392a6dbb07d23bf329580c7cd618dbe4beadbf295cd5c4363c48f8b", func := "loop.example/g01061/laws.FnExactAncestorsOf", spec := "fnExactAncestorsOf", apart := false }
def FnExactAncestorsOfSaid : Prop := fnExactAncestorsOfRow.holds Try.pinned (OpenSpec.ofChange fnExactAncestorsOfSpec)

/-- ITS FALSE NEIGHBOUR: 'it returns false'. Refute it at one input. -/
def fnExactAncestorsOfWrong : ChangeSpec := { name := "fnExactAncestorsOf", fn := fun _ => fun
  | [d1, d2] => { results := [.lit (.bool false)], args := [d1, d2] }
  | _ => none }
def FnExactAncestorsOfWrongFalsely : Prop := fnExactAncestorsOfRow.holds Try.pinned (OpenSpec.ofChange fnExactAncestorsOfWrong)

/-- 'laws.FnExactCommitState': WHATEVER THE INPUT: true; the input reads as it did. -/
def fnExactCommitStateSpec : ChangeSpec := { name := "fnExactCommitState", fn := fun _ => fun
  | [d1, d2, d3, d4] => { results := [.lit (.bool true)], args := [d1, d2, d3, d4] }
  | _ => none }
def fnExactCommitStateRow : OpenClaim := { program := "ytnekigpeknenjaa", sum := "5e1d2446f392a6dbb07d23bf329580c7cd618dbe4beadbf295cd5c4363c48f8b", func := "loop.example/g01061/laws.FnExactCommitState", spec := "fnExactCommitState", apart := false }
def FnExactCommitStateSaid : Prop := fnExactCommitStateRow.holds Try.pinned (OpenSpec.ofChange fnExactCommitStateSpec)

/-- ITS FALSE NEIGHBOUR: 'it returns false'. Refute it at one input. -/
def fnExactCommitStateWrong : ChangeSpec := { name := "fnExactCommitState", fn := fun _ => fun
  | [d1, d2, d3, d4] => { results := [.lit (.bool false)], args := [d1, d2, d3, d4] }
  | _ => none }
def FnExactCommitStateWrongFalsely : Prop := fnExactCommitStateRow.holds Try.pinned (OpenSpec.ofChange fnExactCommitStateWrong)

/-- 'laws.FnExactAddEntry': WHATEVER THE INPUT: true; the input reads as it did. -/
def fnExactAddEntrySpec : ChangeSpec := { name := "fnExactAddEntry", fn := fun _ => fun
  | [d1, d2] => { results := [.lit (.bool true)], args := [d1, d2] }
  | _ => none }
def fnExactAddEntryRow : OpenClaim := { program := "ytnekigpeknenjaa", sum := "5e1d2446f392a6dbb07d23bf329580c7cd618dbe4beadbf295cd5c4363c48f8b", func := "loop.example/g01061/laws.FnExactAddEntry", spec := "fnExactAddEntry", inPlace := ["slices.overlaps[loop.example/g01061/impl.Entry]"], apart := false }
def FnExactAddEntrySaid : Prop := fnExactAddEntryRow.holds Try.pinned (OpenSpec.ofChange fnExactAddEntrySpec)

/-- ITS FALSE NEIGHBOUR: 'it returns false'. Refute it at one input. -/
def fnExactAddEntryWrong : ChangeSpec := { name := "fnExactAddEntry", fn := fun _ => fun
  | [d1, d2] => { results := [.lit (.bool false)], args := [d1, d2] }
  | _ => none }
def FnExactAddEntryWrongFalsely : Prop := fnExactAddEntryRow.holds Try.pinned (OpenSpec.ofChange fnExactAddEntryWrong)

/-- 'laws.FnExactAddPaper': WHATEVER THE INPUT: true; the input reads as it did. -/
def fnExactAddPaperSpec : ChangeSpec := { name := "fnExactAddPaper", fn := fun _ => fun
  | [d1, d2] => { results := [.lit (.bool true)], args := [d1, d2] }
  | _ => none }
def fnExactAddPaperRow : OpenClaim := { program := "ytnekigpeknenjaa", sum := "5e1d2446f392a6dbb07d23bf329580c7cd618dbe4beadbf295cd5c4363c48f8b", func := "loop.example/g01061/laws.FnExactAddPaper", spec := "fnExactAddPaper", inPlace := ["slices.overlaps[loop.example/g01061/impl.Paper]"], apart := false }
def FnExactAddPaperSaid : Prop := fnExactAddPaperRow.holds Try.pinned (OpenSpec.ofChange fnExactAddPaperSpec)

/-- ITS FALSE NEIGHBOUR: 'it returns false'. Refute it at one input. -/
def fnExactAddPaperWrong : ChangeSpec := { name := "fnExactAddPaper", fn := fun _ => fun
  | [d1, d2] => { results := [.lit (.bool false)], args := [d1, d2] }
  | _ => none }
def FnExactAddPaperWrongFalsely : Prop := fnExactAddPaperRow.holds Try.pinned (OpenSpec.ofChange fnExactAddPaperWrong)

/- THE SECOND FORM. 'bulk': how many values and letters a reading holds, each counted each time it is reached (what is shared counts as often as it is met; a slice's spare places count too). A statement '..UptoSaid' is the law's where the arguments, and the package variables that the reading takes, are together of bulk at most 1048576: NARROWER than '..Said'. Prove '..Said' where nothing that the law and all that it calls make is longer than what came in: it says more and counts as full. Else prove '..UptoSaid'. A law counts once. -/
mutual
def uptoBulk {H : Type} : DataW H → Nat
  | .lit (.string bytes) => bytes.length + 1
  | .lit _ => 1
  | .nil => 1
  | .ptr d => uptoBulk d + 1
  | .slice elems spare => uptoBulkAll elems + uptoBulkAll spare + 1
  | .agg parts => uptoBulkAll parts + 1
  | .iface _ d => uptoBulk d + 1
  | .map entries => uptoBulkEntries entries + 1
  | .held _ => 1
def uptoBulkAll {H : Type} : List (DataW H) → Nat
  | [] => 0
  | d :: r => uptoBulk d + uptoBulkAll r
def uptoBulkEntries {H : Type} : List (Lit × DataW H) → Nat
  | [] => 0
  | x :: r => uptoBulkEntry x + uptoBulkEntries r
def uptoBulkEntry {H : Type} : Lit × DataW H → Nat
  | (.string bytes, d) => bytes.length + uptoBulk d + 1
  | (_, d) => uptoBulk d + 1
 end
def uptoSmall : (H : Type) → List (DataW H) → Bool := fun _ ds => decide (uptoBulkAll ds ≤ 1048576)
def OpenSpec.upto (s : _root_.Go.ChangeSpec) : _root_.Go.OpenSpec := { _root_.Go.OpenSpec.ofChange s with cond := some uptoSmall }

/-- 'laws.FnExactColourAfter', WHERE WHAT IT READS IS OF BULK AT MOST 1048576: true; the input reads as it did. -/
def fnExactColourAfterUptoRow : OpenClaim := { program := "ytnekigpeknenjaa", sum := "5e1d2446f392a6dbb07d23bf329580c7cd618dbe4beadbf295cd5c4363c48f8b", func := "loop.example/g01061/laws.FnExactColourAfter", spec := "fnExactColourAfter", apart := false, narrowed := true }
def FnExactColourAfterUptoSaid : Prop := fnExactColourAfterUptoRow.holds Try.pinned (OpenSpec.upto fnExactColourAfterSpec)

/-- 'laws.FnExactCommonAncestor', WHERE WHAT IT READS IS OF BULK AT MOST 1048576: true; the input reads as it did. -/
def fnExactCommonAncestorUptoRow : OpenClaim := { program := "ytnekigpeknenjaa", sum := "5e1d2446f392a6dbb07d23bf329580c7cd618dbe4beadbf295cd5c4363c48f8b", func := "loop.example/g01061/laws.FnExactCommonAncestor", spec := "fnExactCommonAncestor", apart := false, narrowed := true }
def FnExactCommonAncestorUptoSaid : Prop := fnExactCommonAncestorUptoRow.holds Try.pinned (OpenSpec.upto fnExactCommonAncestorSpec)

/-- 'laws.FnExactReadyStacks', WHERE WHAT IT READS IS OF BULK AT MOST 1048576: true; the input reads as it did. -/
def fnExactReadyStacksUptoRow : OpenClaim := { program := "ytnekigpeknenjaa", sum := "5e1d2446f392a6dbb07d23bf329580c7cd618dbe4beadbf295cd5c4363c48f8b", func := "loop.example/g01061/laws.FnExactReadyStacks", spec := "fnExactReadyStacks", apart := false, narrowed := true }
def FnExactReadyStacksUptoSaid : Prop := fnExactReadyStacksUptoRow.holds Try.pinned (OpenSpec.upto fnExactReadyStacksSpec)

/-- 'laws.FnExactFewestClamps', WHERE WHAT IT READS IS OF BULK AT MOST 1048576: true; the input reads as it did. -/
def fnExactFewestClampsUptoRow : OpenClaim := { program := "ytnekigpeknenjaa", sum := "5e1d2446f392a6dbb07d23bf329580c7cd618dbe4beadbf295cd5c4363c48f8b", func := "loop.example/g01061/laws.FnExactFewestClamps", spec := "fnExactFewestClamps", apart := false, narrowed := true }
def FnExactFewestClampsUptoSaid : Prop := fnExactFewestClampsUptoRow.holds Try.pinned (OpenSpec.upto fnExactFewestClampsSpec)

/-- 'laws.FnExactLatestStarts', WHERE WHAT IT READS IS OF BULK AT MOST 1048576: true; the input reads as it did. -/
def fnExactLatestStartsUptoRow : OpenClaim := { program := "ytnekigpeknenjaa", sum := "5e1d2446f392a6dbb07d23bf329580c7cd618dbe4beadbf295cd5c4363c48f8b", func := "loop.example/g01061/laws.FnExactLatestStarts", spec := "fnExactLatestStarts", apart := false, narrowed := true }
def FnExactLatestStartsUptoSaid : Prop := fnExactLatestStartsUptoRow.holds Try.pinned (OpenSpec.upto fnExactLatestStartsSpec)

/-- 'laws.FnExactCriticalSteps', WHERE WHAT IT READS IS OF BULK AT MOST 1048576: true; the input reads as it did. -/
def fnExactCriticalStepsUptoRow : OpenClaim := { program := "ytnekigpeknenjaa", sum := "5e1d2446f392a6dbb07d23bf329580c7cd618dbe4beadbf295cd5c4363c48f8b", func := "loop.example/g01061/laws.FnExactCriticalSteps", spec := "fnExactCriticalSteps", apart := false, narrowed := true }
def FnExactCriticalStepsUptoSaid : Prop := fnExactCriticalStepsUptoRow.holds Try.pinned (OpenSpec.upto fnExactCriticalStepsSpec)

/-- 'laws.FnExactWithClamps', WHERE WHAT IT READS IS OF BULK AT MOST 1048576: true; the input reads as it did. -/
def fnExactWithClampsUptoRow : OpenClaim := { program := "ytnekigpeknenjaa", sum := "5e1d2446f392a6dbb07d23bf329580c7cd618dbe4beadbf295cd5c4363c48f8b", func := "loop.example/g01061/laws.FnExactWithClamps", spec := "fnExactWithClamps", apart := false, narrowed := true }
def FnExactWithClampsUptoSaid : Prop := fnExactWithClampsUptoRow.holds Try.pinned (OpenSpec.upto fnExactWithClampsSpec)

/-- 'laws.FnExactHeadsOf', WHERE WHAT IT READS IS OF BULK AT MOST 1048576: true; the input reads as it did. -/
def fnExactHeadsOfUptoRow : OpenClaim := { program := "ytnekigpeknenjaa", sum := "5e1d2446f392a6dbb07d23bf329580c7cd618dbe4beadbf295cd5c4363c48f8b", func := "loop.example/g01061/laws.FnExactHeadsOf", spec := "fnExactHeadsOf", unfollowed := true, recurses := true, apart := false, narrowed := true }
def FnExactHeadsOfUptoSaid : Prop := fnExactHeadsOfUptoRow.holds Try.pinned (OpenSpec.upto fnExactHeadsOfSpec)

/-- 'laws.FnExactAncestorsOf', WHERE WHAT IT READS IS OF BULK AT MOST 1048576: true; the input reads as it did. -/
def fnExactAncestorsOfUptoRow : OpenClaim := { program := "ytnekigpeknenjaa", sum := "5e1d2446f392a6dbb07d23bf329580c7cd618dbe4beadbf295cd5c4363c48f8b", func := "loop.example/g01061/laws.FnExactAncestorsOf", spec := "fnExactAncestorsOf", apart := false, narrowed := true }
def FnExactAncestorsOfUptoSaid : Prop := fnExactAncestorsOfUptoRow.holds Try.pinned (OpenSpec.upto fnExactAncestorsOfSpec)

/-- 'laws.FnExactCommitState', WHERE WHAT IT READS IS OF BULK AT MOST 1048576: true; the input reads as it did. -/
def fnExactCommitStateUptoRow : OpenClaim := { program := "ytnekigpeknenjaa", sum := "5e1d2446f392a6dbb07d23bf329580c7cd618dbe4beadbf295cd5c4363c48f8b", func := "loop.example/g01061/laws.FnExactCommitState", spec := "fnExactCommitState", apart := false, narrowed := true }
def FnExactCommitStateUptoSaid : Prop := fnExactCommitStateUptoRow.holds Try.pinned (OpenSpec.upto fnExactCommitStateSpec)

/-- 'laws.FnExactAddEntry', WHERE WHAT IT READS IS OF BULK AT MOST 1048576: true; the input reads as it did. -/
def fnExactAddEntryUptoRow : OpenClaim := { program := "ytnekigpeknenjaa", sum := "5e1d2446f392a6dbb07d23bf329580c7cd618dbe4beadbf295cd5c4363c48f8b", func := "loop.example/g01061/laws.FnExactAddEntry", spec := "fnExactAddEntry", inPlace := ["slices.overlaps[loop.example/g01061/impl.Entry]"], apart := false, narrowed := true }
def FnExactAddEntryUptoSaid : Prop := fnExactAddEntryUptoRow.holds Try.pinned (OpenSpec.upto fnExactAddEntrySpec)

/-- 'laws.FnExactAddPaper', WHERE WHAT IT READS IS OF BULK AT MOST 1048576: true; the input reads as it did. -/
def fnExactAddPaperUptoRow : OpenClaim := { program := "ytnekigpeknenjaa", sum := "5e1d2446f392a6dbb07d23bf329580c7cd618dbe4beadbf295cd5c4363c48f8b", func := "loop.example/g01061/laws.FnExactAddPaper", spec := "fnExactAddPaper", inPlace := ["slices.overlaps[loop.example/g01061/impl.Paper]"], apart := false, narrowed := true }
def FnExactAddPaperUptoSaid : Prop := fnExactAddPaperUptoRow.holds Try.pinned (OpenSpec.upto fnExactAddPaperSpec)

end Rows
end Go.Proofs.Ytnekigpeknenjaa
