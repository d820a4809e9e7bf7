/- Small words: texts or none, blocks that hold cells, draws. -/
import Derived.Test.YtmfadjdpbobfhaaDoorBasic
import Derived.Test.YtmfadjdpbobfhaaDoorKit
import Derived.Deep.RegionHeld3
import Derived.Deep.QuietTactic
import Derived.BigQuiet
import Derived.IntWalk
namespace Go.Proofs.YtmfadjdpbobfhaaDoor
open Go.RowKit
set_option linter.unusedVariables false

theorem name_size {s : ByteArray} (h : nameB s = true) : s.size ≤ 10 := (nameB_iff.1 h).2.1
/-- a text, or none -/
def orNo (b : Bool) (t : ByteArray) : ByteArray := if b = true then t else ⟨#[]⟩
/-- block b holds these cells -/
def HasC (w : World) (b : Nat) (cs : List Value) : Prop := b < w.heap.size ∧ ∀ (i : Nat) (v : Value), cs[i]? = some v → w.cell? ⟨b, i, none⟩ = some v
theorem HasC.new (w : World) (cs : List Value) (t : TypeId) : HasC (w.alloc (.cells cs.toArray t)) w.heap.size cs :=
  ⟨by simp, fun i v h => by rw [cell_of_row _ _ _ _ _ _ (heap_alloc_new w _)]; simpa using h⟩
theorem HasC.below {w w1 : World} {b : Nat} {cs : List Value} (h : HasC w b cs) (hb : Below w.heap.size w w1) : HasC w1 b cs :=
  ⟨Nat.lt_of_lt_of_le h.1 hb.size, fun i v hi => (hb.cell (p := ⟨b, i, none⟩) h.1).trans (h.2 i v hi)⟩

theorem IntsAt.new (w : World) (ns : List Int) (t : TypeId) : IntsAt (w.alloc (.cells (ns.map (Value.int .i64)).toArray t)) (some ⟨w.heap.size, 0, none⟩) ns := fun _ =>
  ⟨w.heap.size, 0, rfl, by simp, fun j n hj => by
    rw [cell_of_row _ _ _ _ _ _ (heap_alloc_new w _)]
    simp [hj]⟩
theorem below_drewN (w : World) (n : Nat) : Below w.heap.size w (w.drewN n) := ⟨rfl, rfl, rfl, Nat.le_refl _, fun _ _ => rfl⟩
theorem quiet_left {P : Program} {f : FuncId} {args : Array Value} {w : World} {n : Nat} {v : Value}
    (h : Calls P f args (w.drewN n) fun e w' => e = .returned v ∧ w.drewN n = w') : Calls P f args (w.drewN n) fun e w'' => e = .returned v ∧ ∃ m, w'' = w.drewN m :=
  h.mono fun _ _ ⟨he, hm⟩ => ⟨he, n, hm.symm⟩
theorem IntsAt.drew {w : World} {A : Option Addr} {ns : List Int} (h : IntsAt w A ns) : IntsAt w.drew A ns := h.below (Below.refl _ _).drew

end Go.Proofs.YtmfadjdpbobfhaaDoor
