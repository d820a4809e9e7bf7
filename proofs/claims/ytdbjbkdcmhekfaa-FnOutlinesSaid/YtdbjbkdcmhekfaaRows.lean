/-
  No cell of these rows narrows 'for every input' (looked for: loops, veiled, ifaces, maps, wideKeys, modest, calm, conditions, laid).
  DERIVED. THE GIVEN ROWS OF THIS SEAT. 6 by the template 'for every input the law returns true; each argument reads behind the call as it read before'; 0 by the template 'total and deterministic' (their statements: YtdbjbkdcmhekfaaTotals.lean).
  GIVEN WITH THE SEED: the statements are not yours to turn. If you find one false, say at which input.
  Laid BY PROGRAM, IN A SANDBOX (cutbox-rows.mjs): the forced cells as the released guide's own fill.sh prints them over the translation 0200e20a785a9ad8… (all of the seat's roots in one cut). By AI agents, Wed Nov 11 2026. No macro, syntax, notation, axiom, sorry.
-/
import Derived.Test.YtdbjbkdcmhekfaaChecked
import GoSem.Claim
import GoSem.ClaimJoined
import GoSem.ClaimMapViews
import Derived.JoinedTies
import Derived.KernelRfl
namespace Go.Proofs.Ytdbjbkdcmhekfaa
/- THE CELL 'sum', in the pinned program and in every row, IS THE sha256 OF THE DUMP (.gsa) THAT YtdbjbkdcmhekfaaProg.lean LOADS. Nothing in Lean hashes anything: it is a label: what it is worth is what the hold of that sum in a sandbox is worth. -/
noncomputable def Try.pinned : Pinned := { name := "ytdbjbkdcmhekfaa", sum := "0200e20a785a9ad8955bfc9597f6b35328c3c8843d4d671df6800c29f5158861", checked := Try.checked }
namespace Rows
def none {H : Type} : Left H := { results := [], args := [] }

/-- 'laws.FnExactMostTrusted': WHATEVER THE INPUT: true; the input reads as it did. -/
def fnExactMostTrustedSpec : ChangeSpec := { name := "fnExactMostTrusted", fn := fun _ => fun
  | [d1, d2] => { results := [.lit (.bool true)], args := [d1, d2] }
  | _ => none }
def fnExactMostTrustedRow : OpenClaim := { program := "ytdbjbkdcmhekfaa", sum := "0200e20a785a9ad8955bfc9597f6b35328c3c8843d4d671df6800c29f5158861", func := "loop.example/g01061/laws.FnExactMostTrusted", spec := "fnExactMostTrusted", unfollowed := true, recurses := true, apart := false }
def FnExactMostTrustedSaid : Prop := fnExactMostTrustedRow.holds Try.pinned (OpenSpec.ofChange fnExactMostTrustedSpec)

/-- ITS FALSE NEIGHBOUR: 'it returns false'. Refute it at one input. -/
def fnExactMostTrustedWrong : ChangeSpec := { name := "fnExactMostTrusted", fn := fun _ => fun
  | [d1, d2] => { results := [.lit (.bool false)], args := [d1, d2] }
  | _ => none }
def FnExactMostTrustedWrongFalsely : Prop := fnExactMostTrustedRow.holds Try.pinned (OpenSpec.ofChange fnExactMostTrustedWrong)

/-- 'laws.FnExactCutRibs': WHATEVER THE INPUT: true; the input reads as it did. -/
def fnExactCutRibsSpec : ChangeSpec := { name := "fnExactCutRibs", fn := fun _ => fun
  | [d1, d2, d3, d4] => { results := [.lit (.bool true)], args := [d1, d2, d3, d4] }
  | _ => none }
def fnExactCutRibsRow : OpenClaim := { program := "ytdbjbkdcmhekfaa", sum := "0200e20a785a9ad8955bfc9597f6b35328c3c8843d4d671df6800c29f5158861", func := "loop.example/g01061/laws.FnExactCutRibs", spec := "fnExactCutRibs", recurses := true, apart := false }
def FnExactCutRibsSaid : Prop := fnExactCutRibsRow.holds Try.pinned (OpenSpec.ofChange fnExactCutRibsSpec)

/-- ITS FALSE NEIGHBOUR: 'it returns false'. Refute it at one input. -/
def fnExactCutRibsWrong : ChangeSpec := { name := "fnExactCutRibs", fn := fun _ => fun
  | [d1, d2, d3, d4] => { results := [.lit (.bool false)], args := [d1, d2, d3, d4] }
  | _ => none }
def FnExactCutRibsWrongFalsely : Prop := fnExactCutRibsRow.holds Try.pinned (OpenSpec.ofChange fnExactCutRibsWrong)

/-- 'laws.FnExactPlaceWorks': WHATEVER THE INPUT: true; the input reads as it did. -/
def fnExactPlaceWorksSpec : ChangeSpec := { name := "fnExactPlaceWorks", fn := fun _ => fun
  | [d1, d2, d3] => { results := [.lit (.bool true)], args := [d1, d2, d3] }
  | _ => none }
def fnExactPlaceWorksRow : OpenClaim := { program := "ytdbjbkdcmhekfaa", sum := "0200e20a785a9ad8955bfc9597f6b35328c3c8843d4d671df6800c29f5158861", func := "loop.example/g01061/laws.FnExactPlaceWorks", spec := "fnExactPlaceWorks", recurses := true, apart := false }
def FnExactPlaceWorksSaid : Prop := fnExactPlaceWorksRow.holds Try.pinned (OpenSpec.ofChange fnExactPlaceWorksSpec)

/-- ITS FALSE NEIGHBOUR: 'it returns false'. Refute it at one input. -/
def fnExactPlaceWorksWrong : ChangeSpec := { name := "fnExactPlaceWorks", fn := fun _ => fun
  | [d1, d2, d3] => { results := [.lit (.bool false)], args := [d1, d2, d3] }
  | _ => none }
def FnExactPlaceWorksWrongFalsely : Prop := fnExactPlaceWorksRow.holds Try.pinned (OpenSpec.ofChange fnExactPlaceWorksWrong)

/-- 'laws.FnExactBestCoats': WHATEVER THE INPUT: true; the input reads as it did. -/
def fnExactBestCoatsSpec : ChangeSpec := { name := "fnExactBestCoats", fn := fun _ => fun
  | [d1, d2, d3, d4, d5] => { results := [.lit (.bool true)], args := [d1, d2, d3, d4, d5] }
  | _ => none }
def fnExactBestCoatsRow : OpenClaim := { program := "ytdbjbkdcmhekfaa", sum := "0200e20a785a9ad8955bfc9597f6b35328c3c8843d4d671df6800c29f5158861", func := "loop.example/g01061/laws.FnExactBestCoats", spec := "fnExactBestCoats", recurses := true, apart := false }
def FnExactBestCoatsSaid : Prop := fnExactBestCoatsRow.holds Try.pinned (OpenSpec.ofChange fnExactBestCoatsSpec)

/-- ITS FALSE NEIGHBOUR: 'it returns false'. Refute it at one input. -/
def fnExactBestCoatsWrong : ChangeSpec := { name := "fnExactBestCoats", fn := fun _ => fun
  | [d1, d2, d3, d4, d5] => { results := [.lit (.bool false)], args := [d1, d2, d3, d4, d5] }
  | _ => none }
def FnExactBestCoatsWrongFalsely : Prop := fnExactBestCoatsRow.holds Try.pinned (OpenSpec.ofChange fnExactBestCoatsWrong)

/-- 'laws.FnExactGlueJoints': WHATEVER THE INPUT: true; the input reads as it did. -/
def fnExactGlueJointsSpec : ChangeSpec := { name := "fnExactGlueJoints", fn := fun _ => fun
  | [d1, d2, d3] => { results := [.lit (.bool true)], args := [d1, d2, d3] }
  | _ => none }
def fnExactGlueJointsRow : OpenClaim := { program := "ytdbjbkdcmhekfaa", sum := "0200e20a785a9ad8955bfc9597f6b35328c3c8843d4d671df6800c29f5158861", func := "loop.example/g01061/laws.FnExactGlueJoints", spec := "fnExactGlueJoints", recurses := true, apart := false }
def FnExactGlueJointsSaid : Prop := fnExactGlueJointsRow.holds Try.pinned (OpenSpec.ofChange fnExactGlueJointsSpec)

/-- ITS FALSE NEIGHBOUR: 'it returns false'. Refute it at one input. -/
def fnExactGlueJointsWrong : ChangeSpec := { name := "fnExactGlueJoints", fn := fun _ => fun
  | [d1, d2, d3] => { results := [.lit (.bool false)], args := [d1, d2, d3] }
  | _ => none }
def FnExactGlueJointsWrongFalsely : Prop := fnExactGlueJointsRow.holds Try.pinned (OpenSpec.ofChange fnExactGlueJointsWrong)

/-- 'laws.FnOutlines': WHATEVER THE INPUT: true; the input reads as it did. -/
def fnOutlinesSpec : ChangeSpec := { name := "fnOutlines", fn := fun _ => fun
  | [d1, d2] => { results := [.lit (.bool true)], args := [d1, d2] }
  | _ => none }
def fnOutlinesRow : OpenClaim := { program := "ytdbjbkdcmhekfaa", sum := "0200e20a785a9ad8955bfc9597f6b35328c3c8843d4d671df6800c29f5158861", func := "loop.example/g01061/laws.FnOutlines", spec := "fnOutlines", apart := false }
def FnOutlinesSaid : Prop := fnOutlinesRow.holds Try.pinned (OpenSpec.ofChange fnOutlinesSpec)

/-- ITS FALSE NEIGHBOUR: 'it returns false'. Refute it at one input. -/
def fnOutlinesWrong : ChangeSpec := { name := "fnOutlines", fn := fun _ => fun
  | [d1, d2] => { results := [.lit (.bool false)], args := [d1, d2] }
  | _ => none }
def FnOutlinesWrongFalsely : Prop := fnOutlinesRow.holds Try.pinned (OpenSpec.ofChange fnOutlinesWrong)

/- THE SECOND FORM. 'bulk': how many values and letters a reading holds, each counted each time it is reached (what is shared counts as often as it is met; a slice's spare places count too). A statement '..UptoSaid' is the law's where the arguments, and the package variables that the reading takes, are together of bulk at most 1048576: NARROWER than '..Said'. Prove '..Said' where nothing that the law and all that it calls make is longer than what came in: it says more and counts as full. Else prove '..UptoSaid'. A law counts once. -/
mutual
def uptoBulk {H : Type} : DataW H → Nat
  | .lit (.string bytes) => bytes.length + 1
  | .lit _ => 1
  | .nil => 1
  | .ptr d => uptoBulk d + 1
  | .slice elems spare => uptoBulkAll elems + uptoBulkAll spare + 1
  | .agg parts => uptoBulkAll parts + 1
  | .iface _ d => uptoBulk d + 1
  | .map entries => uptoBulkEntries entries + 1
  | .held _ => 1
def uptoBulkAll {H : Type} : List (DataW H) → Nat
  | [] => 0
  | d :: r => uptoBulk d + uptoBulkAll r
def uptoBulkEntries {H : Type} : List (Lit × DataW H) → Nat
  | [] => 0
  | x :: r => uptoBulkEntry x + uptoBulkEntries r
def uptoBulkEntry {H : Type} : Lit × DataW H → Nat
  | (.string bytes, d) => bytes.length + uptoBulk d + 1
  | (_, d) => uptoBulk d + 1
 end
def uptoSmall : (H : Type) → List (DataW H) → Bool := fun _ ds => decide (uptoBulkAll ds ≤ 1048576)
def OpenSpec.upto (s : _root_.Go.ChangeSpec) : _root_.Go.OpenSpec := { _root_.Go.OpenSpec.ofChange s with cond := some uptoSmall }

/-- 'laws.FnExactMostTrusted', WHERE WHAT IT READS IS OF BULK AT MOST 1048576: true; the input reads as it did. -/
def fnExactMostTrustedUptoRow : OpenClaim := { program := "ytdbjbkdcmhekfaa", sum := "0200e20a785a9ad8955bfc9597f6b35328c3c8843d4d671df6800c29f5158861", func := "loop.example/g01061/laws.FnExactMostTrusted", spec := "fnExactMostTrusted", unfollowed := true, recurses := true, apart := false, narrowed := true }
def FnExactMostTrustedUptoSaid : Prop := fnExactMostTrustedUptoRow.holds Try.pinned (OpenSpec.upto fnExactMostTrustedSpec)

/-- 'laws.FnExactCutRibs', WHERE WHAT IT READS IS OF BULK AT MOST 1048576: true; the input reads as it did. -/
def fnExactCutRibsUptoRow : OpenClaim := { program := "ytdbjbkdcmhekfaa", sum := "0200e20a785a9ad8955bfc9597f6b35328c3c8843d4d671df6800c29f5158861", func := "loop.example/g01061/laws.FnExactCutRibs", spec := "fnExactCutRibs", recurses := true, apart := false, narrowed := true }
def FnExactCutRibsUptoSaid : Prop := fnExactCutRibsUptoRow.holds Try.pinned (OpenSpec.upto fnExactCutRibsSpec)

/-- 'laws.FnExactPlaceWorks', WHERE WHAT IT READS IS OF BULK AT MOST 1048576: true; the input reads as it did. -/
def fnExactPlaceWorksUptoRow : OpenClaim := { program := "ytdbjbkdcmhekfaa", sum := "0200e20a785a9ad8955bfc9597f6b35328c3c8843d4d671df6800c29f5158861", func := "loop.example/g01061/laws.FnExactPlaceWorks", spec := "fnExactPlaceWorks", recurses := true, apart := false, narrowed := true }
def FnExactPlaceWorksUptoSaid : Prop := fnExactPlaceWorksUptoRow.holds Try.pinned (OpenSpec.upto fnExactPlaceWorksSpec)

/-- 'laws.FnExactBestCoats', WHERE WHAT IT READS IS OF BULK AT MOST 1048576: true; the input reads as it did. -/
def fnExactBestCoatsUptoRow : OpenClaim := { program := "ytdbjbkdcmhekfaa", sum := "0200e20a785a9ad8955bfc9597f6b35328c3c8843d4d671df6800c29f5158861", func := "loop.example/g01061/laws.FnExactBestCoats", spec := "fnExactBestCoats", recurses := true, apart := false, narrowed := true }
def FnExactBestCoatsUptoSaid : Prop := fnExactBestCoatsUptoRow.holds Try.pinned (OpenSpec.upto fnExactBestCoatsSpec)

/-- 'laws.FnExactGlueJoints', WHERE WHAT IT READS IS OF BULK AT MOST 1048576: true; the input reads as it did. -/
def fnExactGlueJointsUptoRow : OpenClaim := { program := "ytdbjbkdcmhekfaa", sum := "0200e20a785a9ad8955bfc9597f6b35328c3c8843d4d671df6800c29f5158861", func := "loop.example/g01061/laws.FnExactGlueJoints", spec := "fnExactGlueJoints", recurses := true, apart := false, narrowed := true }
def FnExactGlueJointsUptoSaid : Prop := fnExactGlueJointsUptoRow.holds Try.pinned (OpenSpec.upto fnExactGlueJointsSpec)

/-- 'laws.FnOutlines', WHERE WHAT IT READS IS OF BULK AT MOST 1048576: true; the input reads as it did. -/
def fnOutlinesUptoRow : OpenClaim := { program := "ytdbjbkdcmhekfaa", sum := "0200e20a785a9ad8955bfc9597f6b35328c3c8843d4d671df6800c29f5158861", func := "loop.example/g01061/laws.FnOutlines", spec := "fnOutlines", apart := false, narrowed := true }
def FnOutlinesUptoSaid : Prop := fnOutlinesUptoRow.holds Try.pinned (OpenSpec.upto fnOutlinesSpec)

end Rows
end Go.Proofs.Ytdbjbkdcmhekfaa
