/- Answers: a list of texts and a list of numbers in new memory, and a code. -/
import Derived.Test.YtfagfohcbdlaeaaStrs
namespace Go.Proofs.Ytfagfohcbdlaeaa
open Go.RowKit
set_option linter.unusedVariables false

def RetSI (w : World) (r : List Str × List Int × Int) (e : Ending) (w' : World) : Prop :=
  ∃ (A : Option Addr) (c : Nat) (A2 : Option Addr) (c2 M : Nat), e = .returned (.tuple #[.slice A r.1.length c, .slice A2 r.2.1.length c2, .int .i64 r.2.2]) ∧ w'.ownsRow w.heap.size 9 1 (.slice A r.1.length c) r.1.length (r.1.map vS) ∧ (∀ g, (Value.slice A r.1.length c).ownBlock = some g → g < M) ∧ w'.ownsRow M 2 1 (.slice A2 r.2.1.length c2) r.2.1.length (r.2.1.map (Value.int .i64)) ∧ w.heap.size ≤ M ∧ M ≤ w'.heap.size ∧ Below w.heap.size w w'
theorem RetSI.nil {w w' : World} {r : List Str × List Int × Int} {c : Int} (h : r = ([], [], c)) (hb : Below w.heap.size w w') : RetSI w r (.returned (.tuple #[.slice none 0 0, .slice none 0 0, .int .i64 c])) w' := by
  subst h
  exact ⟨none, 0, none, 0, w'.heap.size, rfl, World.ownsRow_nil _ _ _ _, (fun g hg => by cases hg), World.ownsRow_nil _ _ _ _, hb.size, Nat.le_refl _, hb⟩
theorem RetSI.own {w w' : World} {r : List Str × List Int × Int} {c : Int} {v v2 : Value} {l : List Str} {l2 : List Int} {M : Nat} {w7 : World} (h : r = (l, l2, c)) (_h0 : w7.ownsRow w.heap.size 9 1 v l.length (l.map vS)) (hlt : ∀ g, v.ownBlock = some g → g < M) (ho2 : w'.ownsRow M 2 1 v2 l2.length (l2.map (Value.int .i64))) {B : Nat} (ho : w'.ownsRow B 9 1 v l.length (l.map vS)) (hM : w.heap.size ≤ M) (hM2 : M ≤ w'.heap.size) (hb : Below w.heap.size w w') (hB : w.heap.size ≤ B := by omega) : RetSI w r (.returned (.tuple #[v, v2, .int .i64 c])) w' := by
  subst h
  have ho3 := own_mono ho hB
  obtain ⟨A, c1, he1, hx1, _⟩ := RetS.own ho3 hb
  injection he1 with he1
  subst he1
  obtain ⟨h1, h2⟩ := ho2
  rcases h2 with ⟨rfl, h0⟩ | ⟨g, cap, cur, rfl, q⟩
  · have : l2 = [] := by simpa using h0
    subst this
    exact ⟨A, c1, none, 0, M, rfl, hx1, hlt, World.ownsRow_nil _ _ _ _, hM, hM2, hb⟩
  · exact ⟨A, c1, _, _, M, rfl, hx1, hlt, ⟨h1, .inr ⟨g, cap, cur, rfl, q⟩⟩, hM, hM2, hb⟩

end Go.Proofs.Ytfagfohcbdlaeaa
