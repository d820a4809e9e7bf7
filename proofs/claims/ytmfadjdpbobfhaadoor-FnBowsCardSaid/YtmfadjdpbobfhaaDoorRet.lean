/- Answers: a list of numbers in new memory and a code. -/
import Derived.Test.YtmfadjdpbobfhaaDoorInts
import Derived.Test.YtmfadjdpbobfhaaDoorRowsKit
namespace Go.Proofs.YtmfadjdpbobfhaaDoor
open Go.RowKit
set_option linter.unusedVariables false

def RetIC (w : World) (r : List Int × Int) (e : Ending) (w' : World) : Prop :=
  ∃ A c, e = .returned (.tuple #[.slice A r.1.length c, .int .i64 r.2]) ∧ w'.ownsRow w.heap.size 2 1 (.slice A r.1.length c) r.1.length (r.1.map (Value.int .i64)) ∧ Below w.heap.size w w'
theorem RetIC.nil {w w' : World} {r : List Int × Int} {c : Int} (h : r = ([], c)) (hb : Below w.heap.size w w') : RetIC w r (.returned (.tuple #[.slice none 0 0, .int .i64 c])) w' := by
  subst h
  exact ⟨none, 0, rfl, World.ownsRow_nil _ _ _ _, hb⟩
theorem RetIC.own {w w' : World} {r : List Int × Int} {c : Int} {v : Value} {l : List Int} (h : r = (l, c)) (ho : w'.ownsRow w.heap.size 2 1 v l.length (l.map (Value.int .i64))) (hb : Below w.heap.size w w') : RetIC w r (.returned (.tuple #[v, .int .i64 c])) w' := by
  subst h
  obtain ⟨h1, h2⟩ := ho
  rcases h2 with ⟨rfl, h0⟩ | ⟨g, cap, cur, rfl, r⟩
  · have : l = [] := by simpa using h0
    subst this
    exact ⟨none, 0, rfl, World.ownsRow_nil _ _ _ _, hb⟩
  · exact ⟨_, _, rfl, ⟨h1, .inr ⟨g, cap, cur, rfl, r⟩⟩, hb⟩

end Go.Proofs.YtmfadjdpbobfhaaDoor
