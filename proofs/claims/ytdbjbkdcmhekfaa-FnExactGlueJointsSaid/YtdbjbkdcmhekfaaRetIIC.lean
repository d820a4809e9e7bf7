/- An answer of a list of numbers, a number and a code. -/
import Derived.Test.YtdbjbkdcmhekfaaInts
import Derived.Test.YtdbjbkdcmhekfaaLoopM
namespace Go.Proofs.Ytdbjbkdcmhekfaa
open Go.RowKit
set_option linter.unusedVariables false

def RetIIC (w : World) (r : List Int × Int × Int) (e : Ending) (w' : World) : Prop :=
  ∃ A c, e = .returned (.tuple #[.slice A r.1.length c, .int .i64 r.2.1, .int .i64 r.2.2]) ∧ w'.ownsRow w.heap.size 2 1 (.slice A r.1.length c) r.1.length (r.1.map (Value.int .i64)) ∧ Below w.heap.size w w'
theorem RetIIC.nil {w w' : World} {r : List Int × Int × Int} {d c : Int} (h : r = ([], d, c)) (hb : Below w.heap.size w w') : RetIIC w r (.returned (.tuple #[.slice none 0 0, .int .i64 d, .int .i64 c])) w' := by
  subst h
  exact ⟨none, 0, rfl, World.ownsRow_nil _ _ _ _, hb⟩
theorem RetIIC.own {w w' : World} {r : List Int × Int × Int} {d c : Int} {A : Option Addr} {n cap : Nat} {l : List Int} (h : r = (l, d, c)) (hn : n = l.length) (ho : w'.ownsRow w.heap.size 2 1 (.slice A n cap) n (l.map (Value.int .i64))) (hb : Below w.heap.size w w') : RetIIC w r (.returned (.tuple #[.slice A n cap, .int .i64 d, .int .i64 c])) w' := by
  subst h
  subst hn
  exact ⟨A, cap, rfl, ho, hb⟩
end Go.Proofs.Ytdbjbkdcmhekfaa
