/- Slices of texts: how they lie, and the laws' helpers over them. -/
import Derived.Test.YtjeklbhdngkngaaMarks
import Derived.Test.YtjeklbhdngkngaaSetMath
import Derived.Test.YtjeklbhdngkngaaKeepM
import Derived.Test.YtjeklbhdngkngaaRet
import Derived.Laws.Strings
import Derived.Lib.Strings
namespace Go.Proofs.Ytjeklbhdngkngaa
open Go.RowKit
set_option linter.unusedVariables false

def tB (s : Str) : ByteArray := ⟨s.toArray⟩
def vS (s : Str) : Value := .string (tB s)
theorem tB_data (b : ByteArray) : tB b.data.toList = b := by simp [tB]
theorem vS_data (b : ByteArray) : vS b.data.toList = .string b := by rw [vS, tB_data]
theorem data_tB (s : Str) : (tB s).data.toList = s := rfl
theorem toList_tB (s : Str) : (tB s).toList = s := by rw [Lib.toList_data]; rfl
theorem infoStr : (Try.prog.info? 9).map (fun i => (i.zero, i.size, i.bytes)) = some (some (.string ⟨#[]⟩), 1, 16) := by kernel_rfl

/-- a slice of texts: nil, empty or not -/
def StrsAt (w : World) (A : Option Addr) (ss : List Str) : Prop := ss ≠ [] → ∃ b o, A = some ⟨b, o, none⟩ ∧ b < w.heap.size ∧ ∀ (j : Nat) (s : Str), ss[j]? = some s → w.cell? ⟨b, o + j, none⟩ = some (vS s)
theorem StrsAt.below {w w1 : World} {A : Option Addr} {ss : List Str} (h : StrsAt w A ss) (hb : Below w.heap.size w w1) : StrsAt w1 A ss := fun hn => by
  obtain ⟨b, o, rfl, hlt, hc⟩ := h hn
  exact ⟨b, o, rfl, Nat.lt_of_lt_of_le hlt hb.size, fun j n hj => (hb.cell (p := ⟨b, o + j, none⟩) hlt).trans (hc j n hj)⟩
theorem strs_own {w : World} {B : Nat} {e : TypeId} {A : Option Addr} {n c : Nat} {ss : List Str} (h : w.ownsRow B e 1 (.slice A n c) n (ss.map vS)) : StrsAt w A ss := fun hne => by
  have hl : ss.length = n := by have := h.1; simpa using this
  have hp : 0 < n := by rw [← hl]; exact (by cases ss; exact absurd rfl hne; simp)
  obtain ⟨g, cap, hv, _, hg, _⟩ := own_form h hp
  injection hv with hA _ hcap
  subst hA hcap
  refine ⟨g, 0, rfl, hg, fun j m hj => ?_⟩
  have hjl : j < ss.length := (List.getElem?_eq_some_iff.1 hj).1
  rw [Nat.zero_add, h.cellAt j (by omega), List.getElem?_map, hj]
  rfl

theorem keepM1 {w1 : World} {p0 : Addr} {v0 : Value} (h0 : p0.block < w1.heap.size) {wa wb : World} (h : (True ∧ Below w1.heap.size w1 wa) ∧ wa.cell? p0 = some v0) (hx : Below wa.heap.size wa wb) :
    (True ∧ Below w1.heap.size w1 wb) ∧ wb.cell? p0 = some v0 := by
  obtain ⟨⟨_, g1⟩, k0⟩ := h
  exact ⟨⟨trivial, g1.trans (hx.mono g1.size)⟩, (hx.cell (Nat.lt_of_lt_of_le h0 g1.size)).trans k0⟩

set_option maxHeartbeats 800000 in
set_option maxRecDepth 100000 in
theorem eqStringS_same (A A' : Option Addr) (c c' : Nat) (ss : List Str) (w : World) (hA : StrsAt w A ss) (hA' : StrsAt w A' ss) (hn : ss.length ≤ 1048576) :
    Calls Try.prog 39 #[.slice A ss.length c, .slice A' ss.length c'] w fun e w' => e = .returned (.bool true) ∧ Below w.heap.size w w' := by
  have HA := hid hA
  have HA' := hid hA'
  clear hA hA'
  go_enter Try.func39, Try.ntmps39
  go_wp2_with fail
  go_loopw [5] (fun i wr => ∃ k : Nat, k ≤ ss.length ∧ i = .int .i64 k ∧ Below w.heap.size w wr) (fun i _ => ss.length - (intOf i).toNat)
  case atStart => exact ⟨0, Nat.zero_le _, rfl, Below.refl _ _⟩
  case round =>
    obtain ⟨k, hk, rfl, hbel⟩ := hrel
    by_cases hkl : k < ss.length
    · have hne : ss ≠ [] := by intro e; rw [e] at hkl; exact absurd hkl (by simp)
      obtain ⟨b, o, rfl, hlt, hc⟩ := HA.out hne
      obtain ⟨b', o', rfl, hlt', hc'⟩ := HA'.out hne
      have hcell : wr.cell? ⟨b, o + k, none⟩ = some (.string (tB ss[k])) := (hbel.cell (p := ⟨b, o + k, none⟩) hlt).trans (hc k _ (List.getElem?_eq_getElem hkl))
      have hcell' : wr.cell? ⟨b', o' + k, none⟩ = some (.string (tB ss[k])) := (hbel.cell (p := ⟨b', o' + k, none⟩) hlt').trans (hc' k _ (List.getElem?_eq_getElem hkl))
      have q0 : (0 : Int) ≤ (k : Int) := by omega
      have q1 : (k : Int) < ss.length := by omega
      clear hc hc' HA HA' hne
      go_wp2_with fail
      go_quiet (fail)
      go_wp2_with fail
      go_roundw
      case rel => exact ⟨k + 1, by omega, by go_num, below_drewN' hbel _⟩
      case measure => simp [intOf]; omega
    · go_wp2_with fail
      go_ret
      exact ⟨rfl, hbel⟩

/-- the texts that the laws lay in -/
def mkS (z : Int) : Str := (markT z.toNat).data.toList
theorem vS_mk (z : Int) : vS (mkS z) = .string (markT z.toNat) := vS_data _
def mksS (k : Int) (n : Nat) : List Str := (List.range n).map fun (i : Nat) => mkS (k + (i : Int))
theorem mksS_length (k : Int) (n : Nat) : (mksS k n).length = n := by simp [mksS]
theorem mksS_succ (k : Int) (n : Nat) : mksS k (n + 1) = mksS k n ++ [mkS (k + (n : Int))] := by
  unfold mksS
  rw [List.range_succ, List.map_append]
  rfl
theorem mksS_at {k : Int} {n i : Nat} (h : i < n) : (mksS k n)[i]? = some (mkS (k + (i : Int))) := by
  unfold mksS
  rw [List.getElem?_map, List.getElem?_range h]
  rfl
theorem mksS_set {k : Int} {ss : List Str} {j : Nat} (h : j < ss.length) : (mksS k j ++ ss.drop j).set j (mkS (k + (j : Int))) = mksS k (j + 1) ++ ss.drop (j + 1) := by
  rw [List.set_append_right _ _ (by rw [mksS_length]; omega), mksS_length, Nat.sub_self, List.drop_eq_getElem_cons h, List.set_cons_zero, mksS_succ, List.append_assoc]
  rfl
def MarkSRel (w : World) (B h n : Nat) (k : Int) (ss : List Str) (A : Option Addr) (c : Nat) (i m : Value) (wr : World) : Prop :=
  ∃ j : Nat, j ≤ n ∧ i = .int .i64 j ∧ m = .int .i64 (k + j) ∧ wr.ownsRow B 9 1 (.slice A n c) n ((mksS k j ++ ss.drop j).map vS) ∧ Chg B h w wr

set_option maxHeartbeats 1600000 in
set_option maxRecDepth 100000 in
theorem markStringS_ok (A : Option Addr) (c B h : Nat) (ss : List Str) (k : Int) (w : World) (hown : w.ownsRow B 9 1 (.slice A ss.length c) ss.length (ss.map vS)) (hlt : ∀ g, (Value.slice A ss.length c).ownBlock = some g → g < h) (hk0 : 0 < k) (hk1 : k ≤ 1000000000000000) (hn : ss.length ≤ 1099511627776) :
    Calls Try.prog 40 #[.slice A ss.length c, .int .i64 k] w fun e w' => e = .returned (.int .i64 (k + ss.length)) ∧ w'.ownsRow B 9 1 (.slice A ss.length c) ss.length ((mksS k ss.length).map vS) ∧ Chg B h w w' := by
  have HL := hid hlt
  have HO0 := hid hown
  clear hlt hown
  go_enter Try.func40, Try.ntmps40
  go_wp2_with fail
  go_loopw [5, 1] (fun i m wr => MarkSRel w B h ss.length k ss A c i m wr) (fun i _ _ => ss.length - (intOf i).toNat)
  case atStart => exact ⟨0, Nat.zero_le _, rfl, by simp, by simpa [mksS] using HO0.out, Chg.refl _ _ _⟩
  case round =>
    obtain ⟨j, hj, rfl, rfl, hown, hch⟩ := hrel
    by_cases hjl : j < ss.length
    · obtain ⟨g, cap, hv, hBg, _, _⟩ := own_form hown (by omega)
      obtain ⟨rfl, _, rfl⟩ : A = some ⟨g, 0, none⟩ ∧ ss.length = ss.length ∧ c = cap := by injection hv with a1 a2 a3; exact ⟨a1, a2, a3⟩
      have hgh := HL.out g rfl
      have HM := hid (mksS_set (k := k) hjl)
      have O0 := hid hown
      have C0 := hid hch
      clear hown hv hch HL HO0
      go_wp2_with fail
      refine (markText_i _ _ (by omega) (by omega)).mono ?_
      rintro e w1 ⟨rfl, hb⟩
      have P0 := hid (own_below O0.out hb)
      have Q0 := hid (C0.out.then_below hb)
      clear hb
      obtain ⟨u0, hold0⟩ := own_cell P0.out (q := j) (by omega)
      have hfr0 := P0.out.frozenAt j
      have HS := hid (P0.out.stored j (vS (mkS (k + (j : Int)))))
      have HC := hid (Chg.setCell (p := ⟨g, j, none⟩) Q0.out (vS (mkS (k + (j : Int)))) hBg hgh)
      rw [vS_mk] at HS HC
      go_wp2_with fail
      go_roundw
      case rel =>
        refine ⟨j + 1, by omega, by go_num, by go_num, ?_, HC.out⟩
        have e := HS.out.1
        rw [← vS_mk, ← List.map_set (f := vS), HM.out] at e
        exact e
      case measure => simp [intOf]; omega
    · have hj2 : j = ss.length := by omega
      subst hj2
      have HO := hid hown
      clear hown
      go_wp2_with fail
      go_ret
      exact ⟨rfl, by have := HO.out; simpa using this, hch⟩

set_option maxHeartbeats 1600000 in
set_option maxRecDepth 100000 in
theorem heldStringS_ok (A : Option Addr) (c n : Nat) (k : Int) (w : World) (hA : StrsAt w A (mksS k n)) (hk0 : 0 < k) (hk1 : k ≤ 1000000000000000) (hn : n ≤ 1099511627776) :
    Calls Try.prog 41 #[.slice A n c, .int .i64 k] w fun e w' => e = .returned (.int .i64 (k + n)) ∧ Below w.heap.size w w' := by
  have HA := hid hA
  clear hA
  go_enter Try.func41, Try.ntmps41
  go_wp2_with fail
  go_loopw [5, 1] (fun i m wr => ∃ j : Nat, j ≤ n ∧ i = .int .i64 j ∧ m = .int .i64 (k + j) ∧ Below w.heap.size w wr) (fun i _ _ => n - (intOf i).toNat)
  case atStart => exact ⟨0, Nat.zero_le _, rfl, by simp, Below.refl _ _⟩
  case round =>
    obtain ⟨j, hj, rfl, rfl, hbel⟩ := hrel
    by_cases hjl : j < n
    · obtain ⟨b, o, rfl, hlt, hc⟩ := (HA.out.below hbel) (by intro e; have := congrArg List.length e; rw [mksS_length] at this; simp at this; omega)
      have hc0 : wr.cell? ⟨b, o + j, none⟩ = some (.string (markT (k + (j : Int)).toNat)) := by rw [← vS_mk]; exact hc j _ (mksS_at hjl)
      have q0 : (0 : Int) ≤ (j : Int) := by omega
      have q1 : (j : Int) < n := by omega
      have B0 := hid hbel
      clear hc hbel
      go_wp2_with fail
      go_region_held3 (fun w' => (True ∧ Below wr.heap.size wr w') ∧ w'.cell? ⟨b, o + j, none⟩ = some (.string (markT (k + (j : Int)).toNat)))
        (first | exact ⟨⟨trivial, (Below.refl _ _).drew⟩, hc0⟩ | exact keepM1 hlt ‹_ ∧ _› ‹Below _ _ _›)
        ((go_at_call 71; refine (markText_i _ _ (by omega) (by omega)).mono ?_; rintro e wz0 ⟨rfl, hb6⟩))
      have hh0 := ‹(_ ∧ Below _ _ wz0) ∧ _›
      obtain ⟨⟨_, hB0⟩, gc0⟩ := hh0
      have B1 := hid (below_up B0.out (by have := B0.out.size; omega) hB0)
      clear hc0 hB0 gc0
      go_wp2_with fail
      go_roundw
      case rel => exact ⟨j + 1, by omega, by go_num, by go_num, B1.out⟩
      case measure => simp [intOf]; omega
    · have hj2 : j = n := by omega
      subst hj2
      go_wp2_with fail
      go_ret
      exact ⟨rfl, hbel⟩

/-- answers: a list of texts in new memory -/
def RetS (w : World) (ss : List Str) (e : Ending) (w' : World) : Prop :=
  ∃ A c, e = .returned (.slice A ss.length c) ∧ w'.ownsRow w.heap.size 9 1 (.slice A ss.length c) ss.length (ss.map vS) ∧ Below w.heap.size w w'
theorem RetS.own {w w' : World} {v : Value} {l : List Str} (ho : w'.ownsRow w.heap.size 9 1 v l.length (l.map vS)) (hb : Below w.heap.size w w') : RetS w l (.returned v) w' := by
  obtain ⟨h1, h2⟩ := ho
  rcases h2 with ⟨rfl, h0⟩ | ⟨g, cap, cur, rfl, r⟩
  · have : l = [] := by simpa using h0
    subst this
    exact ⟨none, 0, rfl, World.ownsRow_nil _ _ _ _, hb⟩
  · exact ⟨_, _, rfl, ⟨h1, .inr ⟨g, cap, cur, rfl, r⟩⟩, hb⟩
/-- and a code -/
def RetSC (w : World) (r : List Str × Int) (e : Ending) (w' : World) : Prop :=
  ∃ A c, e = .returned (.tuple #[.slice A r.1.length c, .int .i64 r.2]) ∧ w'.ownsRow w.heap.size 9 1 (.slice A r.1.length c) r.1.length (r.1.map vS) ∧ Below w.heap.size w w'
theorem RetSC.nil {w w' : World} {r : List Str × Int} {c : Int} (h : r = ([], c)) (hb : Below w.heap.size w w') : RetSC w r (.returned (.tuple #[.slice none 0 0, .int .i64 c])) w' := by
  subst h
  exact ⟨none, 0, rfl, World.ownsRow_nil _ _ _ _, hb⟩
theorem RetSC.own {w w' : World} {r : List Str × Int} {c : Int} {v : Value} {l : List Str} (h : r = (l, c)) (ho : w'.ownsRow w.heap.size 9 1 v l.length (l.map vS)) (hb : Below w.heap.size w w') : RetSC w r (.returned (.tuple #[v, .int .i64 c])) w' := by
  subst h
  obtain ⟨A, k, he, ho, hb⟩ := RetS.own ho hb
  injection he with he
  subst he
  exact ⟨A, k, rfl, ho, hb⟩

end Go.Proofs.Ytjeklbhdngkngaa
