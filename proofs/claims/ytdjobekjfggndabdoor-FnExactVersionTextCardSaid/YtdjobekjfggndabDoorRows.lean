/-
  NARROWER THAN 'FOR EVERY INPUT', by the rows' own cells (each row's printed sentence says how): FnExactWorkText: laid · FnExactPolicyText: laid · FnExactPotText: laid · FnExactPaperText: laid · FnExactRentalText: laid · FnExactVersionText: laid · FnExactStepText: laid · FnExactCoatText: laid · FnExactStackText: laid.
  DERIVED. THE GIVEN ROWS OF THIS SEAT. 9 by the template 'for every input the law returns true; each argument reads behind the call as it read before'; 0 by the template 'total and deterministic' (their statements: YtdjobekjfggndabDoorTotals.lean).
  GIVEN WITH THE SEED: the statements are not yours to turn. If you find one false, say at which input.
  Laid BY PROGRAM, IN A SANDBOX (cutbox-rows.mjs): the forced cells as the released guide's own fill.sh prints them over the translation 1bdff7b6575e724e… (all of the seat's roots in one cut). By AI agents, Wed Nov 11 2026. No macro, syntax, notation, axiom, sorry.
-/
import Derived.Test.YtdjobekjfggndabDoorChecked
import GoSem.Claim
import GoSem.ClaimJoined
import GoSem.ClaimMapViews
import Derived.JoinedTies
import Derived.KernelRfl
namespace Go.Proofs.YtdjobekjfggndabDoor
/- THE CELL 'sum', in the pinned program and in every row, IS THE sha256 OF THE DUMP (.gsa) THAT YtdjobekjfggndabDoorProg.lean LOADS. Nothing in Lean hashes anything: it is a label: what it is worth is what the hold of that sum in a sandbox is worth. -/
noncomputable def Tryd.pinned : Pinned := { name := "ytdjobekjfggndabdoor", sum := "1bdff7b6575e724e7702d2f4a7a383135e3a58e6251858dc4671f323678c0d7e", checked := Tryd.checked }
namespace Rows
def none {H : Type} : Left H := { results := [], args := [] }

/- WHAT THE LISTED PACKAGE-LEVEL VARIABLES READ AS WHEN THE CALL BEGINS. Each datum BY PROGRAM (the guide's laid-datum.mjs) off the statement by which the dump's own 'gosem.cut.vars' lays the variable. In a bare row this is a premise. The card (YtdjobekjfggndabDoorCards.lean) ties it to the program's text. -/
def laid_math_bits_deBruijn32tab {H : Type} : DataW H := .agg [.lit (.int .u8 0), .lit (.int .u8 1), .lit (.int .u8 28), .lit (.int .u8 2), .lit (.int .u8 29), .lit (.int .u8 14), .lit (.int .u8 24), .lit (.int .u8 3), .lit (.int .u8 30), .lit (.int .u8 22), .lit (.int .u8 20), .lit (.int .u8 15), .lit (.int .u8 25), .lit (.int .u8 17), .lit (.int .u8 4), .lit (.int .u8 8), .lit (.int .u8 31), .lit (.int .u8 27), .lit (.int .u8 13), .lit (.int .u8 23), .lit (.int .u8 21), .lit (.int .u8 19), .lit (.int .u8 16), .lit (.int .u8 7), .lit (.int .u8 26), .lit (.int .u8 12), .lit (.int .u8 18), .lit (.int .u8 6), .lit (.int .u8 11), .lit (.int .u8 5), .lit (.int .u8 10), .lit (.int .u8 9)]
def laid_math_bits_deBruijn64tab {H : Type} : DataW H := .agg [.lit (.int .u8 0), .lit (.int .u8 1), .lit (.int .u8 56), .lit (.int .u8 2), .lit (.int .u8 57), .lit (.int .u8 49), .lit (.int .u8 28), .lit (.int .u8 3), .lit (.int .u8 61), .lit (.int .u8 58), .lit (.int .u8 42), .lit (.int .u8 50), .lit (.int .u8 38), .lit (.int .u8 29), .lit (.int .u8 17), .lit (.int .u8 4), .lit (.int .u8 62), .lit (.int .u8 47), .lit (.int .u8 59), .lit (.int .u8 36), .lit (.int .u8 45), .lit (.int .u8 43), .lit (.int .u8 51), .lit (.int .u8 22), .lit (.int .u8 53), .lit (.int .u8 39), .lit (.int .u8 33), .lit (.int .u8 30), .lit (.int .u8 24), .lit (.int .u8 18), .lit (.int .u8 12), .lit (.int .u8 5), .lit (.int .u8 63), .lit (.int .u8 55), .lit (.int .u8 48), .lit (.int .u8 27), .lit (.int .u8 60), .lit (.int .u8 41), .lit (.int .u8 37), .lit (.int .u8 16), .lit (.int .u8 46), .lit (.int .u8 35), .lit (.int .u8 44), .lit (.int .u8 21), .lit (.int .u8 52), .lit (.int .u8 32), .lit (.int .u8 23), .lit (.int .u8 11), .lit (.int .u8 54), .lit (.int .u8 26), .lit (.int .u8 40), .lit (.int .u8 15), .lit (.int .u8 34), .lit (.int .u8 20), .lit (.int .u8 31), .lit (.int .u8 10), .lit (.int .u8 25), .lit (.int .u8 14), .lit (.int .u8 19), .lit (.int .u8 9), .lit (.int .u8 13), .lit (.int .u8 8), .lit (.int .u8 7), .lit (.int .u8 6)]
def laid_internal_strconv_uint64pow10 {H : Type} : DataW H := .agg [.lit (.int .u64 1), .lit (.int .u64 10), .lit (.int .u64 100), .lit (.int .u64 1000), .lit (.int .u64 10000), .lit (.int .u64 100000), .lit (.int .u64 1000000), .lit (.int .u64 10000000), .lit (.int .u64 100000000), .lit (.int .u64 1000000000), .lit (.int .u64 10000000000), .lit (.int .u64 100000000000), .lit (.int .u64 1000000000000), .lit (.int .u64 10000000000000), .lit (.int .u64 100000000000000), .lit (.int .u64 1000000000000000), .lit (.int .u64 10000000000000000), .lit (.int .u64 100000000000000000), .lit (.int .u64 1000000000000000000), .lit (.int .u64 10000000000000000000)]

/-- 'laws.FnExactWorkText': WHATEVER THE INPUT: true; the input reads as it did. -/
def fnExactWorkTextSpec : ChangeSpec := { name := "fnExactWorkText", fn := fun _ => fun
  | [d] => { results := [.lit (.bool true)], args := [d] }
  | _ => none }
def fnExactWorkTextRow : OpenClaim := { program := "ytdjobekjfggndabdoor", sum := "1bdff7b6575e724e7702d2f4a7a383135e3a58e6251858dc4671f323678c0d7e", func := "loop.example/g01061/laws.FnExactWorkText", spec := "fnExactWorkText", inPlace := ["internal/abi.NoEscape", "internal/bytealg.MakeNoZero"], named := ["internal/strconv.uint64pow10", "math/bits.deBruijn32tab", "math/bits.deBruijn64tab"], apart := false, laid := [("math/bits.deBruijn32tab", laid_math_bits_deBruijn32tab), ("math/bits.deBruijn64tab", laid_math_bits_deBruijn64tab), ("internal/strconv.uint64pow10", laid_internal_strconv_uint64pow10)] }
def FnExactWorkTextSaid : Prop := fnExactWorkTextRow.holds Tryd.pinned (OpenSpec.ofChange fnExactWorkTextSpec)

/-- ITS FALSE NEIGHBOUR: 'it returns false'. Refute it at one input. -/
def fnExactWorkTextWrong : ChangeSpec := { name := "fnExactWorkText", fn := fun _ => fun
  | [d] => { results := [.lit (.bool false)], args := [d] }
  | _ => none }
def FnExactWorkTextWrongFalsely : Prop := fnExactWorkTextRow.holds Tryd.pinned (OpenSpec.ofChange fnExactWorkTextWrong)

/-- 'laws.FnExactPolicyText': WHATEVER THE INPUT: true; the input reads as it did. -/
def fnExactPolicyTextSpec : ChangeSpec := { name := "fnExactPolicyText", fn := fun _ => fun
  | [d] => { results := [.lit (.bool true)], args := [d] }
  | _ => none }
def fnExactPolicyTextRow : OpenClaim := { program := "ytdjobekjfggndabdoor", sum := "1bdff7b6575e724e7702d2f4a7a383135e3a58e6251858dc4671f323678c0d7e", func := "loop.example/g01061/laws.FnExactPolicyText", spec := "fnExactPolicyText", inPlace := ["internal/abi.NoEscape", "internal/bytealg.MakeNoZero"], named := ["internal/strconv.uint64pow10", "math/bits.deBruijn32tab", "math/bits.deBruijn64tab"], apart := false, laid := [("math/bits.deBruijn32tab", laid_math_bits_deBruijn32tab), ("math/bits.deBruijn64tab", laid_math_bits_deBruijn64tab), ("internal/strconv.uint64pow10", laid_internal_strconv_uint64pow10)] }
def FnExactPolicyTextSaid : Prop := fnExactPolicyTextRow.holds Tryd.pinned (OpenSpec.ofChange fnExactPolicyTextSpec)

/-- ITS FALSE NEIGHBOUR: 'it returns false'. Refute it at one input. -/
def fnExactPolicyTextWrong : ChangeSpec := { name := "fnExactPolicyText", fn := fun _ => fun
  | [d] => { results := [.lit (.bool false)], args := [d] }
  | _ => none }
def FnExactPolicyTextWrongFalsely : Prop := fnExactPolicyTextRow.holds Tryd.pinned (OpenSpec.ofChange fnExactPolicyTextWrong)

/-- 'laws.FnExactPotText': WHATEVER THE INPUT: true; the input reads as it did. -/
def fnExactPotTextSpec : ChangeSpec := { name := "fnExactPotText", fn := fun _ => fun
  | [d] => { results := [.lit (.bool true)], args := [d] }
  | _ => none }
def fnExactPotTextRow : OpenClaim := { program := "ytdjobekjfggndabdoor", sum := "1bdff7b6575e724e7702d2f4a7a383135e3a58e6251858dc4671f323678c0d7e", func := "loop.example/g01061/laws.FnExactPotText", spec := "fnExactPotText", inPlace := ["internal/abi.NoEscape", "internal/bytealg.MakeNoZero"], named := ["internal/strconv.uint64pow10", "math/bits.deBruijn32tab", "math/bits.deBruijn64tab"], apart := false, laid := [("math/bits.deBruijn32tab", laid_math_bits_deBruijn32tab), ("math/bits.deBruijn64tab", laid_math_bits_deBruijn64tab), ("internal/strconv.uint64pow10", laid_internal_strconv_uint64pow10)] }
def FnExactPotTextSaid : Prop := fnExactPotTextRow.holds Tryd.pinned (OpenSpec.ofChange fnExactPotTextSpec)

/-- ITS FALSE NEIGHBOUR: 'it returns false'. Refute it at one input. -/
def fnExactPotTextWrong : ChangeSpec := { name := "fnExactPotText", fn := fun _ => fun
  | [d] => { results := [.lit (.bool false)], args := [d] }
  | _ => none }
def FnExactPotTextWrongFalsely : Prop := fnExactPotTextRow.holds Tryd.pinned (OpenSpec.ofChange fnExactPotTextWrong)

/-- 'laws.FnExactPaperText': WHATEVER THE INPUT: true; the input reads as it did. -/
def fnExactPaperTextSpec : ChangeSpec := { name := "fnExactPaperText", fn := fun _ => fun
  | [d] => { results := [.lit (.bool true)], args := [d] }
  | _ => none }
def fnExactPaperTextRow : OpenClaim := { program := "ytdjobekjfggndabdoor", sum := "1bdff7b6575e724e7702d2f4a7a383135e3a58e6251858dc4671f323678c0d7e", func := "loop.example/g01061/laws.FnExactPaperText", spec := "fnExactPaperText", inPlace := ["internal/abi.NoEscape", "internal/bytealg.MakeNoZero"], named := ["internal/strconv.uint64pow10", "math/bits.deBruijn32tab", "math/bits.deBruijn64tab"], apart := false, laid := [("math/bits.deBruijn32tab", laid_math_bits_deBruijn32tab), ("math/bits.deBruijn64tab", laid_math_bits_deBruijn64tab), ("internal/strconv.uint64pow10", laid_internal_strconv_uint64pow10)] }
def FnExactPaperTextSaid : Prop := fnExactPaperTextRow.holds Tryd.pinned (OpenSpec.ofChange fnExactPaperTextSpec)

/-- ITS FALSE NEIGHBOUR: 'it returns false'. Refute it at one input. -/
def fnExactPaperTextWrong : ChangeSpec := { name := "fnExactPaperText", fn := fun _ => fun
  | [d] => { results := [.lit (.bool false)], args := [d] }
  | _ => none }
def FnExactPaperTextWrongFalsely : Prop := fnExactPaperTextRow.holds Tryd.pinned (OpenSpec.ofChange fnExactPaperTextWrong)

/-- 'laws.FnExactRentalText': WHATEVER THE INPUT: true; the input reads as it did. -/
def fnExactRentalTextSpec : ChangeSpec := { name := "fnExactRentalText", fn := fun _ => fun
  | [d] => { results := [.lit (.bool true)], args := [d] }
  | _ => none }
def fnExactRentalTextRow : OpenClaim := { program := "ytdjobekjfggndabdoor", sum := "1bdff7b6575e724e7702d2f4a7a383135e3a58e6251858dc4671f323678c0d7e", func := "loop.example/g01061/laws.FnExactRentalText", spec := "fnExactRentalText", inPlace := ["internal/abi.NoEscape", "internal/bytealg.MakeNoZero"], named := ["internal/strconv.uint64pow10", "math/bits.deBruijn32tab", "math/bits.deBruijn64tab"], apart := false, laid := [("math/bits.deBruijn32tab", laid_math_bits_deBruijn32tab), ("math/bits.deBruijn64tab", laid_math_bits_deBruijn64tab), ("internal/strconv.uint64pow10", laid_internal_strconv_uint64pow10)] }
def FnExactRentalTextSaid : Prop := fnExactRentalTextRow.holds Tryd.pinned (OpenSpec.ofChange fnExactRentalTextSpec)

/-- ITS FALSE NEIGHBOUR: 'it returns false'. Refute it at one input. -/
def fnExactRentalTextWrong : ChangeSpec := { name := "fnExactRentalText", fn := fun _ => fun
  | [d] => { results := [.lit (.bool false)], args := [d] }
  | _ => none }
def FnExactRentalTextWrongFalsely : Prop := fnExactRentalTextRow.holds Tryd.pinned (OpenSpec.ofChange fnExactRentalTextWrong)

/-- 'laws.FnExactVersionText': WHATEVER THE INPUT: true; the input reads as it did. -/
def fnExactVersionTextSpec : ChangeSpec := { name := "fnExactVersionText", fn := fun _ => fun
  | [d] => { results := [.lit (.bool true)], args := [d] }
  | _ => none }
def fnExactVersionTextRow : OpenClaim := { program := "ytdjobekjfggndabdoor", sum := "1bdff7b6575e724e7702d2f4a7a383135e3a58e6251858dc4671f323678c0d7e", func := "loop.example/g01061/laws.FnExactVersionText", spec := "fnExactVersionText", named := ["internal/strconv.uint64pow10", "math/bits.deBruijn32tab", "math/bits.deBruijn64tab"], apart := false, laid := [("math/bits.deBruijn32tab", laid_math_bits_deBruijn32tab), ("math/bits.deBruijn64tab", laid_math_bits_deBruijn64tab), ("internal/strconv.uint64pow10", laid_internal_strconv_uint64pow10)] }
def FnExactVersionTextSaid : Prop := fnExactVersionTextRow.holds Tryd.pinned (OpenSpec.ofChange fnExactVersionTextSpec)

/-- ITS FALSE NEIGHBOUR: 'it returns false'. Refute it at one input. -/
def fnExactVersionTextWrong : ChangeSpec := { name := "fnExactVersionText", fn := fun _ => fun
  | [d] => { results := [.lit (.bool false)], args := [d] }
  | _ => none }
def FnExactVersionTextWrongFalsely : Prop := fnExactVersionTextRow.holds Tryd.pinned (OpenSpec.ofChange fnExactVersionTextWrong)

/-- 'laws.FnExactStepText': WHATEVER THE INPUT: true; the input reads as it did. -/
def fnExactStepTextSpec : ChangeSpec := { name := "fnExactStepText", fn := fun _ => fun
  | [d] => { results := [.lit (.bool true)], args := [d] }
  | _ => none }
def fnExactStepTextRow : OpenClaim := { program := "ytdjobekjfggndabdoor", sum := "1bdff7b6575e724e7702d2f4a7a383135e3a58e6251858dc4671f323678c0d7e", func := "loop.example/g01061/laws.FnExactStepText", spec := "fnExactStepText", inPlace := ["internal/abi.NoEscape", "internal/bytealg.MakeNoZero"], named := ["internal/strconv.uint64pow10", "math/bits.deBruijn32tab", "math/bits.deBruijn64tab"], apart := false, laid := [("math/bits.deBruijn32tab", laid_math_bits_deBruijn32tab), ("math/bits.deBruijn64tab", laid_math_bits_deBruijn64tab), ("internal/strconv.uint64pow10", laid_internal_strconv_uint64pow10)] }
def FnExactStepTextSaid : Prop := fnExactStepTextRow.holds Tryd.pinned (OpenSpec.ofChange fnExactStepTextSpec)

/-- ITS FALSE NEIGHBOUR: 'it returns false'. Refute it at one input. -/
def fnExactStepTextWrong : ChangeSpec := { name := "fnExactStepText", fn := fun _ => fun
  | [d] => { results := [.lit (.bool false)], args := [d] }
  | _ => none }
def FnExactStepTextWrongFalsely : Prop := fnExactStepTextRow.holds Tryd.pinned (OpenSpec.ofChange fnExactStepTextWrong)

/-- 'laws.FnExactCoatText': WHATEVER THE INPUT: true; the input reads as it did. -/
def fnExactCoatTextSpec : ChangeSpec := { name := "fnExactCoatText", fn := fun _ => fun
  | [d] => { results := [.lit (.bool true)], args := [d] }
  | _ => none }
def fnExactCoatTextRow : OpenClaim := { program := "ytdjobekjfggndabdoor", sum := "1bdff7b6575e724e7702d2f4a7a383135e3a58e6251858dc4671f323678c0d7e", func := "loop.example/g01061/laws.FnExactCoatText", spec := "fnExactCoatText", inPlace := ["internal/abi.NoEscape", "internal/bytealg.MakeNoZero"], named := ["internal/strconv.uint64pow10", "math/bits.deBruijn32tab", "math/bits.deBruijn64tab"], apart := false, laid := [("math/bits.deBruijn32tab", laid_math_bits_deBruijn32tab), ("math/bits.deBruijn64tab", laid_math_bits_deBruijn64tab), ("internal/strconv.uint64pow10", laid_internal_strconv_uint64pow10)] }
def FnExactCoatTextSaid : Prop := fnExactCoatTextRow.holds Tryd.pinned (OpenSpec.ofChange fnExactCoatTextSpec)

/-- ITS FALSE NEIGHBOUR: 'it returns false'. Refute it at one input. -/
def fnExactCoatTextWrong : ChangeSpec := { name := "fnExactCoatText", fn := fun _ => fun
  | [d] => { results := [.lit (.bool false)], args := [d] }
  | _ => none }
def FnExactCoatTextWrongFalsely : Prop := fnExactCoatTextRow.holds Tryd.pinned (OpenSpec.ofChange fnExactCoatTextWrong)

/-- 'laws.FnExactStackText': WHATEVER THE INPUT: true; the input reads as it did. -/
def fnExactStackTextSpec : ChangeSpec := { name := "fnExactStackText", fn := fun _ => fun
  | [d] => { results := [.lit (.bool true)], args := [d] }
  | _ => none }
def fnExactStackTextRow : OpenClaim := { program := "ytdjobekjfggndabdoor", sum := "1bdff7b6575e724e7702d2f4a7a383135e3a58e6251858dc4671f323678c0d7e", func := "loop.example/g01061/laws.FnExactStackText", spec := "fnExactStackText", inPlace := ["internal/abi.NoEscape", "internal/bytealg.MakeNoZero"], named := ["internal/strconv.uint64pow10", "math/bits.deBruijn32tab", "math/bits.deBruijn64tab"], apart := false, laid := [("math/bits.deBruijn32tab", laid_math_bits_deBruijn32tab), ("math/bits.deBruijn64tab", laid_math_bits_deBruijn64tab), ("internal/strconv.uint64pow10", laid_internal_strconv_uint64pow10)] }
def FnExactStackTextSaid : Prop := fnExactStackTextRow.holds Tryd.pinned (OpenSpec.ofChange fnExactStackTextSpec)

/-- ITS FALSE NEIGHBOUR: 'it returns false'. Refute it at one input. -/
def fnExactStackTextWrong : ChangeSpec := { name := "fnExactStackText", fn := fun _ => fun
  | [d] => { results := [.lit (.bool false)], args := [d] }
  | _ => none }
def FnExactStackTextWrongFalsely : Prop := fnExactStackTextRow.holds Tryd.pinned (OpenSpec.ofChange fnExactStackTextWrong)

/- THE SECOND FORM. 'bulk': how many values and letters a reading holds, each counted each time it is reached (what is shared counts as often as it is met; a slice's spare places count too). A statement '..UptoSaid' is the law's where the arguments, and the package variables that the reading takes, are together of bulk at most 1048576: NARROWER than '..Said'. Prove '..Said' where nothing that the law and all that it calls make is longer than what came in: it says more and counts as full. Else prove '..UptoSaid'. A law counts once. -/
mutual
def uptoBulk {H : Type} : DataW H → Nat
  | .lit (.string bytes) => bytes.length + 1
  | .lit _ => 1
  | .nil => 1
  | .ptr d => uptoBulk d + 1
  | .slice elems spare => uptoBulkAll elems + uptoBulkAll spare + 1
  | .agg parts => uptoBulkAll parts + 1
  | .iface _ d => uptoBulk d + 1
  | .map entries => uptoBulkEntries entries + 1
  | .held _ => 1
def uptoBulkAll {H : Type} : List (DataW H) → Nat
  | [] => 0
  | d :: r => uptoBulk d + uptoBulkAll r
def uptoBulkEntries {H : Type} : List (Lit × DataW H) → Nat
  | [] => 0
  | x :: r => uptoBulkEntry x + uptoBulkEntries r
def uptoBulkEntry {H : Type} : Lit × DataW H → Nat
  | (.string bytes, d) => bytes.length + uptoBulk d + 1
  | (_, d) => uptoBulk d + 1
 end
def uptoSmall : (H : Type) → List (DataW H) → Bool := fun _ ds => decide (uptoBulkAll ds ≤ 1048576)
def OpenSpec.upto (s : _root_.Go.ChangeSpec) : _root_.Go.OpenSpec := { _root_.Go.OpenSpec.ofChange s with cond := some uptoSmall }

/-- 'laws.FnExactWorkText', WHERE WHAT IT READS IS OF BULK AT MOST 1048576: true; the input reads as it did. -/
def fnExactWorkTextUptoRow : OpenClaim := { program := "ytdjobekjfggndabdoor", sum := "1bdff7b6575e724e7702d2f4a7a383135e3a58e6251858dc4671f323678c0d7e", func := "loop.example/g01061/laws.FnExactWorkText", spec := "fnExactWorkText", inPlace := ["internal/abi.NoEscape", "internal/bytealg.MakeNoZero"], named := ["internal/strconv.uint64pow10", "math/bits.deBruijn32tab", "math/bits.deBruijn64tab"], apart := false, laid := [("math/bits.deBruijn32tab", laid_math_bits_deBruijn32tab), ("math/bits.deBruijn64tab", laid_math_bits_deBruijn64tab), ("internal/strconv.uint64pow10", laid_internal_strconv_uint64pow10)], narrowed := true }
def FnExactWorkTextUptoSaid : Prop := fnExactWorkTextUptoRow.holds Tryd.pinned (OpenSpec.upto fnExactWorkTextSpec)

/-- 'laws.FnExactPolicyText', WHERE WHAT IT READS IS OF BULK AT MOST 1048576: true; the input reads as it did. -/
def fnExactPolicyTextUptoRow : OpenClaim := { program := "ytdjobekjfggndabdoor", sum := "1bdff7b6575e724e7702d2f4a7a383135e3a58e6251858dc4671f323678c0d7e", func := "loop.example/g01061/laws.FnExactPolicyText", spec := "fnExactPolicyText", inPlace := ["internal/abi.NoEscape", "internal/bytealg.MakeNoZero"], named := ["internal/strconv.uint64pow10", "math/bits.deBruijn32tab", "math/bits.deBruijn64tab"], apart := false, laid := [("math/bits.deBruijn32tab", laid_math_bits_deBruijn32tab), ("math/bits.deBruijn64tab", laid_math_bits_deBruijn64tab), ("internal/strconv.uint64pow10", laid_internal_strconv_uint64pow10)], narrowed := true }
def FnExactPolicyTextUptoSaid : Prop := fnExactPolicyTextUptoRow.holds Tryd.pinned (OpenSpec.upto fnExactPolicyTextSpec)

/-- 'laws.FnExactPotText', WHERE WHAT IT READS IS OF BULK AT MOST 1048576: true; the input reads as it did. -/
def fnExactPotTextUptoRow : OpenClaim := { program := "ytdjobekjfggndabdoor", sum := "1bdff7b6575e724e7702d2f4a7a383135e3a58e6251858dc4671f323678c0d7e", func := "loop.example/g01061/laws.FnExactPotText", spec := "fnExactPotText", inPlace := ["internal/abi.NoEscape", "internal/bytealg.MakeNoZero"], named := ["internal/strconv.uint64pow10", "math/bits.deBruijn32tab", "math/bits.deBruijn64tab"], apart := false, laid := [("math/bits.deBruijn32tab", laid_math_bits_deBruijn32tab), ("math/bits.deBruijn64tab", laid_math_bits_deBruijn64tab), ("internal/strconv.uint64pow10", laid_internal_strconv_uint64pow10)], narrowed := true }
def FnExactPotTextUptoSaid : Prop := fnExactPotTextUptoRow.holds Tryd.pinned (OpenSpec.upto fnExactPotTextSpec)

/-- 'laws.FnExactPaperText', WHERE WHAT IT READS IS OF BULK AT MOST 1048576: true; the input reads as it did. -/
def fnExactPaperTextUptoRow : OpenClaim := { program := "ytdjobekjfggndabdoor", sum := "1bdff7b6575e724e7702d2f4a7a383135e3a58e6251858dc4671f323678c0d7e", func := "loop.example/g01061/laws.FnExactPaperText", spec := "fnExactPaperText", inPlace := ["internal/abi.NoEscape", "internal/bytealg.MakeNoZero"], named := ["internal/strconv.uint64pow10", "math/bits.deBruijn32tab", "math/bits.deBruijn64tab"], apart := false, laid := [("math/bits.deBruijn32tab", laid_math_bits_deBruijn32tab), ("math/bits.deBruijn64tab", laid_math_bits_deBruijn64tab), ("internal/strconv.uint64pow10", laid_internal_strconv_uint64pow10)], narrowed := true }
def FnExactPaperTextUptoSaid : Prop := fnExactPaperTextUptoRow.holds Tryd.pinned (OpenSpec.upto fnExactPaperTextSpec)

/-- 'laws.FnExactRentalText', WHERE WHAT IT READS IS OF BULK AT MOST 1048576: true; the input reads as it did. -/
def fnExactRentalTextUptoRow : OpenClaim := { program := "ytdjobekjfggndabdoor", sum := "1bdff7b6575e724e7702d2f4a7a383135e3a58e6251858dc4671f323678c0d7e", func := "loop.example/g01061/laws.FnExactRentalText", spec := "fnExactRentalText", inPlace := ["internal/abi.NoEscape", "internal/bytealg.MakeNoZero"], named := ["internal/strconv.uint64pow10", "math/bits.deBruijn32tab", "math/bits.deBruijn64tab"], apart := false, laid := [("math/bits.deBruijn32tab", laid_math_bits_deBruijn32tab), ("math/bits.deBruijn64tab", laid_math_bits_deBruijn64tab), ("internal/strconv.uint64pow10", laid_internal_strconv_uint64pow10)], narrowed := true }
def FnExactRentalTextUptoSaid : Prop := fnExactRentalTextUptoRow.holds Tryd.pinned (OpenSpec.upto fnExactRentalTextSpec)

/-- 'laws.FnExactVersionText', WHERE WHAT IT READS IS OF BULK AT MOST 1048576: true; the input reads as it did. -/
def fnExactVersionTextUptoRow : OpenClaim := { program := "ytdjobekjfggndabdoor", sum := "1bdff7b6575e724e7702d2f4a7a383135e3a58e6251858dc4671f323678c0d7e", func := "loop.example/g01061/laws.FnExactVersionText", spec := "fnExactVersionText", named := ["internal/strconv.uint64pow10", "math/bits.deBruijn32tab", "math/bits.deBruijn64tab"], apart := false, laid := [("math/bits.deBruijn32tab", laid_math_bits_deBruijn32tab), ("math/bits.deBruijn64tab", laid_math_bits_deBruijn64tab), ("internal/strconv.uint64pow10", laid_internal_strconv_uint64pow10)], narrowed := true }
def FnExactVersionTextUptoSaid : Prop := fnExactVersionTextUptoRow.holds Tryd.pinned (OpenSpec.upto fnExactVersionTextSpec)

/-- 'laws.FnExactStepText', WHERE WHAT IT READS IS OF BULK AT MOST 1048576: true; the input reads as it did. -/
def fnExactStepTextUptoRow : OpenClaim := { program := "ytdjobekjfggndabdoor", sum := "1bdff7b6575e724e7702d2f4a7a383135e3a58e6251858dc4671f323678c0d7e", func := "loop.example/g01061/laws.FnExactStepText", spec := "fnExactStepText", inPlace := ["internal/abi.NoEscape", "internal/bytealg.MakeNoZero"], named := ["internal/strconv.uint64pow10", "math/bits.deBruijn32tab", "math/bits.deBruijn64tab"], apart := false, laid := [("math/bits.deBruijn32tab", laid_math_bits_deBruijn32tab), ("math/bits.deBruijn64tab", laid_math_bits_deBruijn64tab), ("internal/strconv.uint64pow10", laid_internal_strconv_uint64pow10)], narrowed := true }
def FnExactStepTextUptoSaid : Prop := fnExactStepTextUptoRow.holds Tryd.pinned (OpenSpec.upto fnExactStepTextSpec)

/-- 'laws.FnExactCoatText', WHERE WHAT IT READS IS OF BULK AT MOST 1048576: true; the input reads as it did. -/
def fnExactCoatTextUptoRow : OpenClaim := { program := "ytdjobekjfggndabdoor", sum := "1bdff7b6575e724e7702d2f4a7a383135e3a58e6251858dc4671f323678c0d7e", func := "loop.example/g01061/laws.FnExactCoatText", spec := "fnExactCoatText", inPlace := ["internal/abi.NoEscape", "internal/bytealg.MakeNoZero"], named := ["internal/strconv.uint64pow10", "math/bits.deBruijn32tab", "math/bits.deBruijn64tab"], apart := false, laid := [("math/bits.deBruijn32tab", laid_math_bits_deBruijn32tab), ("math/bits.deBruijn64tab", laid_math_bits_deBruijn64tab), ("internal/strconv.uint64pow10", laid_internal_strconv_uint64pow10)], narrowed := true }
def FnExactCoatTextUptoSaid : Prop := fnExactCoatTextUptoRow.holds Tryd.pinned (OpenSpec.upto fnExactCoatTextSpec)

/-- 'laws.FnExactStackText', WHERE WHAT IT READS IS OF BULK AT MOST 1048576: true; the input reads as it did. -/
def fnExactStackTextUptoRow : OpenClaim := { program := "ytdjobekjfggndabdoor", sum := "1bdff7b6575e724e7702d2f4a7a383135e3a58e6251858dc4671f323678c0d7e", func := "loop.example/g01061/laws.FnExactStackText", spec := "fnExactStackText", inPlace := ["internal/abi.NoEscape", "internal/bytealg.MakeNoZero"], named := ["internal/strconv.uint64pow10", "math/bits.deBruijn32tab", "math/bits.deBruijn64tab"], apart := false, laid := [("math/bits.deBruijn32tab", laid_math_bits_deBruijn32tab), ("math/bits.deBruijn64tab", laid_math_bits_deBruijn64tab), ("internal/strconv.uint64pow10", laid_internal_strconv_uint64pow10)], narrowed := true }
def FnExactStackTextUptoSaid : Prop := fnExactStackTextUptoRow.holds Tryd.pinned (OpenSpec.upto fnExactStackTextSpec)

end Rows
end Go.Proofs.YtdjobekjfggndabDoor
