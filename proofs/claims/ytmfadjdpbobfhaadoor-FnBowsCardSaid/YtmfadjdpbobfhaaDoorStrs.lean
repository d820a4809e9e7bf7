/- Slices of texts: how they lie, and the laws' helpers over them. -/
import Derived.Test.YtmfadjdpbobfhaaDoorMarks
import Derived.Test.YtmfadjdpbobfhaaDoorSetMath
import Derived.Test.YtmfadjdpbobfhaaDoorKeepM
import Derived.Test.YtmfadjdpbobfhaaDoorRet
import Derived.Laws.Strings
import Derived.Lib.Strings
namespace Go.Proofs.YtmfadjdpbobfhaaDoor
open Go.RowKit
set_option linter.unusedVariables false

def tB (s : Str) : ByteArray := ⟨s.toArray⟩
def vS (s : Str) : Value := .string (tB s)
theorem tB_data (b : ByteArray) : tB b.data.toList = b := by simp [tB]
theorem vS_data (b : ByteArray) : vS b.data.toList = .string b := by rw [vS, tB_data]
theorem data_tB (s : Str) : (tB s).data.toList = s := rfl
theorem toList_tB (s : Str) : (tB s).toList = s := by rw [Lib.toList_data]; rfl
theorem infoStr : (Tryd.prog.info? 9).map (fun i => (i.zero, i.size, i.bytes)) = some (some (.string ⟨#[]⟩), 1, 16) := by kernel_rfl

/-- a slice of texts: nil, empty or not -/
def StrsAt (w : World) (A : Option Addr) (ss : List Str) : Prop := ss ≠ [] → ∃ b o, A = some ⟨b, o, none⟩ ∧ b < w.heap.size ∧ ∀ (j : Nat) (s : Str), ss[j]? = some s → w.cell? ⟨b, o + j, none⟩ = some (vS s)
theorem StrsAt.below {w w1 : World} {A : Option Addr} {ss : List Str} (h : StrsAt w A ss) (hb : Below w.heap.size w w1) : StrsAt w1 A ss := fun hn => by
  obtain ⟨b, o, rfl, hlt, hc⟩ := h hn
  exact ⟨b, o, rfl, Nat.lt_of_lt_of_le hlt hb.size, fun j n hj => (hb.cell (p := ⟨b, o + j, none⟩) hlt).trans (hc j n hj)⟩
theorem strs_own {w : World} {B : Nat} {e : TypeId} {A : Option Addr} {n c : Nat} {ss : List Str} (h : w.ownsRow B e 1 (.slice A n c) n (ss.map vS)) : StrsAt w A ss := fun hne => by
  have hl : ss.length = n := by have := h.1; simpa using this
  have hp : 0 < n := by rw [← hl]; exact (by cases ss; exact absurd rfl hne; simp)
  obtain ⟨g, cap, hv, _, hg, _⟩ := own_form h hp
  injection hv with hA _ hcap
  subst hA hcap
  refine ⟨g, 0, rfl, hg, fun j m hj => ?_⟩
  have hjl : j < ss.length := (List.getElem?_eq_some_iff.1 hj).1
  rw [Nat.zero_add, h.cellAt j (by omega), List.getElem?_map, hj]
  rfl

theorem keepM1 {w1 : World} {p0 : Addr} {v0 : Value} (h0 : p0.block < w1.heap.size) {wa wb : World} (h : (True ∧ Below w1.heap.size w1 wa) ∧ wa.cell? p0 = some v0) (hx : Below wa.heap.size wa wb) :
    (True ∧ Below w1.heap.size w1 wb) ∧ wb.cell? p0 = some v0 := by
  obtain ⟨⟨_, g1⟩, k0⟩ := h
  exact ⟨⟨trivial, g1.trans (hx.mono g1.size)⟩, (hx.cell (Nat.lt_of_lt_of_le h0 g1.size)).trans k0⟩


/-- the texts that the laws lay in -/
def mkS (z : Int) : Str := (markT z.toNat).data.toList
theorem vS_mk (z : Int) : vS (mkS z) = .string (markT z.toNat) := vS_data _
def mksS (k : Int) (n : Nat) : List Str := (List.range n).map fun (i : Nat) => mkS (k + (i : Int))
theorem mksS_length (k : Int) (n : Nat) : (mksS k n).length = n := by simp [mksS]
theorem mksS_succ (k : Int) (n : Nat) : mksS k (n + 1) = mksS k n ++ [mkS (k + (n : Int))] := by
  unfold mksS
  rw [List.range_succ, List.map_append]
  rfl
theorem mksS_at {k : Int} {n i : Nat} (h : i < n) : (mksS k n)[i]? = some (mkS (k + (i : Int))) := by
  unfold mksS
  rw [List.getElem?_map, List.getElem?_range h]
  rfl
theorem mksS_set {k : Int} {ss : List Str} {j : Nat} (h : j < ss.length) : (mksS k j ++ ss.drop j).set j (mkS (k + (j : Int))) = mksS k (j + 1) ++ ss.drop (j + 1) := by
  rw [List.set_append_right _ _ (by rw [mksS_length]; omega), mksS_length, Nat.sub_self, List.drop_eq_getElem_cons h, List.set_cons_zero, mksS_succ, List.append_assoc]
  rfl
def MarkSRel (w : World) (B h n : Nat) (k : Int) (ss : List Str) (A : Option Addr) (c : Nat) (i m : Value) (wr : World) : Prop :=
  ∃ j : Nat, j ≤ n ∧ i = .int .i64 j ∧ m = .int .i64 (k + j) ∧ wr.ownsRow B 9 1 (.slice A n c) n ((mksS k j ++ ss.drop j).map vS) ∧ Chg B h w wr



/-- answers: a list of texts in new memory -/
def RetS (w : World) (ss : List Str) (e : Ending) (w' : World) : Prop :=
  ∃ A c, e = .returned (.slice A ss.length c) ∧ w'.ownsRow w.heap.size 9 1 (.slice A ss.length c) ss.length (ss.map vS) ∧ Below w.heap.size w w'
theorem RetS.own {w w' : World} {v : Value} {l : List Str} (ho : w'.ownsRow w.heap.size 9 1 v l.length (l.map vS)) (hb : Below w.heap.size w w') : RetS w l (.returned v) w' := by
  obtain ⟨h1, h2⟩ := ho
  rcases h2 with ⟨rfl, h0⟩ | ⟨g, cap, cur, rfl, r⟩
  · have : l = [] := by simpa using h0
    subst this
    exact ⟨none, 0, rfl, World.ownsRow_nil _ _ _ _, hb⟩
  · exact ⟨_, _, rfl, ⟨h1, .inr ⟨g, cap, cur, rfl, r⟩⟩, hb⟩
/-- and a code -/
def RetSC (w : World) (r : List Str × Int) (e : Ending) (w' : World) : Prop :=
  ∃ A c, e = .returned (.tuple #[.slice A r.1.length c, .int .i64 r.2]) ∧ w'.ownsRow w.heap.size 9 1 (.slice A r.1.length c) r.1.length (r.1.map vS) ∧ Below w.heap.size w w'
theorem RetSC.nil {w w' : World} {r : List Str × Int} {c : Int} (h : r = ([], c)) (hb : Below w.heap.size w w') : RetSC w r (.returned (.tuple #[.slice none 0 0, .int .i64 c])) w' := by
  subst h
  exact ⟨none, 0, rfl, World.ownsRow_nil _ _ _ _, hb⟩
theorem RetSC.own {w w' : World} {r : List Str × Int} {c : Int} {v : Value} {l : List Str} (h : r = (l, c)) (ho : w'.ownsRow w.heap.size 9 1 v l.length (l.map vS)) (hb : Below w.heap.size w w') : RetSC w r (.returned (.tuple #[v, .int .i64 c])) w' := by
  subst h
  obtain ⟨A, k, he, ho, hb⟩ := RetS.own ho hb
  injection he with he
  subst he
  exact ⟨A, k, rfl, ho, hb⟩

end Go.Proofs.YtmfadjdpbobfhaaDoor
