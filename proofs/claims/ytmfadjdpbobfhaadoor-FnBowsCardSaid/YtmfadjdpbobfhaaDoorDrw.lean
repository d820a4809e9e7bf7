/- Drawn choices: the reference's source of choices, a number below a bound, one of some texts. -/
import Derived.Test.YtmfadjdpbobfhaaDoorRowOps
import Derived.Test.YtmfadjdpbobfhaaDoorRange
import Derived.Test.YtmfadjdpbobfhaaDoorFrame
import Derived.Test.YtmfadjdpbobfhaaDoorHas
namespace Go.Proofs.YtmfadjdpbobfhaaDoor
open Go.RowKit
set_option linter.unusedVariables false

/-- bytes that came in -/
def BytesAt (w : World) (A : Option Addr) (ns : List Int) : Prop := RowsAt w 1 A (ns.map fun n => [Value.int .u8 n])
def ByteIn (ns : List Int) : Prop := ∀ n ∈ ns, 0 ≤ n ∧ n ≤ 255
theorem BytesAt.below {w w1 : World} {A : Option Addr} {ns : List Int} (h : BytesAt w A ns) (hb : Below w.heap.size w w1) : BytesAt w1 A ns := RowsAt.below h hb
theorem BytesAt.at {w : World} {A : Option Addr} {ns : List Int} (h : BytesAt w A ns) {k : Nat} (hk : k < ns.length) : ∃ b o, A = some ⟨b, o, none⟩ ∧ b < w.heap.size ∧ w.cell? ⟨b, o + k, none⟩ = some (.int .u8 ns[k]) := by
  obtain ⟨b, o, rfl, hlt, hc⟩ := h (by intro e; rw [List.map_eq_nil_iff] at e; rw [e] at hk; exact absurd hk (by simp))
  have h1 := hc k _ (by rw [List.getElem?_map, List.getElem?_eq_getElem hk]; rfl) 0 _ rfl
  rw [Nat.mul_one, Nat.add_zero] at h1
  exact ⟨b, o, rfl, hlt, h1⟩
theorem mask255 (x : Int) : 0 ≤ bits .and .u64 x 255 ∧ bits .and .u64 x 255 ≤ 255 := by
  have h1 : ((BitVec.ofInt 64 x &&& BitVec.ofInt 64 255).toNat : Int) ≤ 255 := by
    rw [BitVec.toNat_and]
    have := Nat.and_le_right (n := (BitVec.ofInt 64 x).toNat) (m := (BitVec.ofInt 64 255).toNat)
    have e : (BitVec.ofInt 64 255).toNat = 255 := by decide
    rw [e] at this ⊢
    omega
  have h0 : (0 : Int) ≤ ((BitVec.ofInt 64 x &&& BitVec.ofInt 64 255).toNat : Int) := Int.natCast_nonneg _
  have e : bits .and .u64 x 255 = IntKind.u64.wrap ((BitVec.ofInt 64 x &&& BitVec.ofInt 64 255).toNat : Int) := rfl
  rw [e, IntWalk.u64_in _ ⟨h0, by omega⟩]
  exact ⟨h0, h1⟩

theorem mask64 (x : Int) : 0 ≤ wrap64 (bits .and .u64 x 255) ∧ wrap64 (bits .and .u64 x 255) < 256 := by
  have h := mask255 x
  have e : wrap64 (bits .and .u64 x 255) = bits .and .u64 x 255 := by unfold wrap64; omega
  rw [e]
  omega

/-- the source in block b: u choices at most have been made -/
structure SrcB (w0 : World) (b : Nat) (V : Value) (u : Nat) (w : World) : Prop where
  below : Below w0.heap.size w0 w
  lo : w0.heap.size ≤ b
  own : ∃ (n : Nat) (s : Int), n ≤ u ∧ w.ownsRow b 150 3 (.slice (some ⟨b, 0, none⟩) 1 1) 1 [V, .int .i64 (n : Int), .int .u64 s]
theorem SrcB.lt {w0 : World} {b : Nat} {V : Value} {u : Nat} {w : World} (h : SrcB w0 b V u w) : b < w.heap.size := by
  obtain ⟨n, s, _, ho⟩ := h.own
  exact (ho.lt b rfl).2
theorem SrcB.next {w0 : World} {b : Nat} {V : Value} {u : Nat} {w w' : World} (h : SrcB w0 b V u w) (hb : Below w.heap.size w w') : SrcB w0 b V u w' := by
  obtain ⟨n, s, h1, ho⟩ := h.own
  exact ⟨below_up h.below h.below.size hb, h.lo, n, s, h1, own_below ho hb⟩
theorem SrcB.more {w0 : World} {b : Nat} {V : Value} {u v : Nat} {w : World} (h : SrcB w0 b V u w) (hv : u ≤ v) : SrcB w0 b V v w := by
  obtain ⟨n, s, h1, ho⟩ := h.own
  exact ⟨h.below, h.lo, n, s, by omega, ho⟩
theorem SrcB.drew {w0 : World} {b : Nat} {V : Value} {u : Nat} {w : World} (h : SrcB w0 b V u w) : SrcB w0 b V u w.drew := ⟨h.below.drew, h.lo, h.own⟩
/-- an answer of the source -/
def RetN (w0 : World) (b : Nat) (V : Value) (u : Nat) (m : Int) (w : World) (e : Ending) (w' : World) : Prop :=
  ∃ r : Int, e = .returned (.int .i64 r) ∧ (0 ≤ r ∧ r < m) ∧ SrcB w0 b V u w' ∧ Chg b (b + 1) w w'

theorem RetN.drew {w0 : World} {b : Nat} {V : Value} {u : Nat} {m : Int} {w : World} {e : Ending} {w' : World} (h : RetN w0 b V u m w e w') : RetN w0 b V u m w e w'.drew := by
  obtain ⟨r, h1, h2, h3, h4⟩ := h
  exact ⟨r, h1, h2, h3.drew, ⟨h4.os, h4.tape, h4.output, h4.size, h4.block⟩⟩

set_option maxHeartbeats 1600000 in
set_option maxRecDepth 100000 in
theorem next_ok (w0 : World) (b : Nat) (A : Option Addr) (c : Nat) (ns : List Int) (u : Nat) (w : World) (hs : SrcB w0 b (.slice A ns.length c) u w) (hA : BytesAt w0 A ns) (hB : ByteIn ns) (hl : ns.length ≤ 1048576) (hu : u ≤ 100000) :
    Calls Tryd.prog 159 #[.pointer (some ⟨b, 0, none⟩)] w (RetN w0 b (.slice A ns.length c) (u + 1) 256 w) := by
  obtain ⟨n, s, hn, ho⟩ := hs.own
  have HS := hid hs
  have HO := hid ho
  have c0 := ho.cellAt 0 (by omega)
  have c1 := ho.cellAt 1 (by omega)
  have c2 := ho.cellAt 2 (by omega)
  have f1 := ho.frozenAt 1
  have f2 := ho.frozenAt 2
  simp only [List.getElem?_cons_zero, List.getElem?_cons_succ] at c0 c1 c2
  have q0 : (0 : Int) ≤ (n : Int) := by omega
  have q1 : (n : Int) ≤ 100000 := by omega
  have q2 : (ns.length : Int) ≤ 1048576 := by omega
  have fin : ∀ (r : Int) (sd : Int), (0 ≤ r ∧ r < 256) → RetN w0 b (.slice A ns.length c) (u + 1) 256 w (.returned (.int .i64 r)) ((w.setCell ⟨b, 1, none⟩ (.int .i64 ((n : Int) + 1))).setCell ⟨b, 2, none⟩ (.int .u64 sd)) := fun r sd hr => by
    have B1 := HS.out.below.setCell (p := ⟨b, 1, none⟩) HS.out.lo (.int .i64 ((n : Int) + 1))
    have B2 := B1.setCell (p := ⟨b, 2, none⟩) HS.out.lo (.int .u64 sd)
    refine ⟨r, rfl, hr, ⟨B2, HS.out.lo, n + 1, sd, by omega, ?_⟩, ((Chg.refl b (b + 1) w).setCell (p := ⟨b, 1, none⟩) _ (Nat.le_refl _) (Nat.lt_succ_self _)).setCell (p := ⟨b, 2, none⟩) _ (Nat.le_refl _) (Nat.lt_succ_self _)⟩
    exact own_setCells [.int .i64 ((n : Int) + 1), .int .u64 sd] (p := 1) HO.out
  have FIN := hid fin
  clear ho hs fin
  by_cases hk : n < ns.length
  · obtain ⟨b1, o1, rfl, hb1, hc1⟩ := (hA.below HS.out.below).at hk
    obtain ⟨z, hz⟩ : ∃ z, ns[n] = z := ⟨_, rfl⟩
    have hz1 := hB ns[n] (List.getElem_mem hk)
    rw [hz] at hz1 hc1
    obtain ⟨z0, z1⟩ := hz1
    have q3 : (n : Int) < (ns.length : Int) := by omega
    have q4 : (n : Int) + 1 ≤ (ns.length : Int) := by omega
    clear hz hA hB hb1
    go_enter Tryd.func159, Tryd.ntmps159
    go_wp2_with fail
    go_region
    go_wp2_with fail
    go_region
    go_wp2_with fail
    go_region
    go_wp2_with fail
    go_ret
    exact (FIN.out z _ ⟨z0, by omega⟩).drew.drew.drew
  · have q3 : ¬ (n : Int) < (ns.length : Int) := by omega
    have q4 : ¬ (n : Int) + 1 ≤ (ns.length : Int) := by omega
    clear hA hB
    go_enter Tryd.func159, Tryd.ntmps159
    go_wp2_with fail
    go_region
    go_wp2_with fail
    go_region
    go_wp2_with fail
    go_ret
    exact (FIN.out _ _ (mask64 _)).drew.drew

set_option maxHeartbeats 1600000 in
set_option maxRecDepth 100000 in
/-- a number below m -/
theorem pick_ok (w0 : World) (b : Nat) (A : Option Addr) (c : Nat) (ns : List Int) (u : Nat) (m : Int) (w : World) (hs : SrcB w0 b (.slice A ns.length c) u w) (hA : BytesAt w0 A ns) (hB : ByteIn ns) (hl : ns.length ≤ 1048576) (hu : u ≤ 90000) (hm : 1 < m) (hm2 : m ≤ 60000) :
    Calls Tryd.prog 134 #[.pointer (some ⟨b, 0, none⟩), .int .i64 m] w (RetN w0 b (.slice A ns.length c) (u + 2) m w) := by
  have HS := hid hs
  have HA := hid hA
  have HB := hid hB
  have e1 : decide (m ≤ 1) = false := decide_eq_false (by omega)
  have e0 : ¬ m = 0 := by omega
  have e9 : ¬ m = -1 := by omega
  have hmo : ∀ x : Int, 0 ≤ x % m ∧ x % m < m := fun x => ⟨Int.emod_nonneg _ e0, Int.emod_lt_of_pos _ (by omega)⟩
  have HM := hid hmo
  clear hs hA hB hmo
  by_cases h2 : 200 < m
  · have e2 : decide (200 < m) = true := decide_eq_true h2
    go_enter Tryd.func134, Tryd.ntmps134
    go_wp2_with fail
    refine (next_ok w0 b A c ns u _ HS.out HA.out HB.out hl (by omega)).mono ?_
    rintro e w1 ⟨r, rfl, ⟨r0, r1⟩, hs1, hc1⟩
    have S1 := hid hs1
    have C1 := hid hc1
    clear hs1 hc1
    go_wp2_with fail
    refine (next_ok w0 b A c ns (u + 1) _ S1.out HA.out HB.out hl (by omega)).mono ?_
    rintro e w2 ⟨r2, rfl, ⟨r20, r21⟩, hs2, hc2⟩
    have S2 := hid hs2
    have C2 := hid hc2
    clear hs2 hc2
    go_wp2_with fail
    go_ret
    exact ⟨_, rfl, HM.out _, S2.out, C1.out.trans C2.out⟩
  · have e2 : decide (200 < m) = false := decide_eq_false h2
    go_enter Tryd.func134, Tryd.ntmps134
    go_wp2_with fail
    refine (next_ok w0 b A c ns u _ HS.out HA.out HB.out hl (by omega)).mono ?_
    rintro e w1 ⟨r, rfl, ⟨r0, r1⟩, hs1, hc1⟩
    have S1 := hid (hs1.more (show u + 1 ≤ u + 2 by omega))
    have C1 := hid hc1
    clear hs1 hc1
    go_wp2_with fail
    go_ret
    exact ⟨_, rfl, HM.out _, S1.out, C1.out⟩

set_option maxRecDepth 100000 in
/-- a new source -/
theorem from_ok (A : Option Addr) (c : Nat) (ns : List Int) (w : World) :
    Calls Tryd.prog 83 #[.slice A ns.length c] w fun e w' => ∃ b, e = .returned (.pointer (some ⟨b, 0, none⟩)) ∧ b = w.heap.size ∧ SrcB w b (.slice A ns.length c) 0 w' := by
  have ho : (w.alloc (.cells #[.slice A ns.length c, .int .i64 0, .int .u64 0] 150)).ownsRow w.heap.size 150 3 (.slice (some ⟨w.heap.size, 0, none⟩) 1 1) 1 [.slice A ns.length c, .int .i64 0, .int .u64 0] := World.ownsRow_lit _ _ 1 (Nat.le_refl _) (by unfold maxLen; omega) rfl
  have HO := hid ho
  clear ho
  go_enter Tryd.func83, Tryd.ntmps83
  go_wp2_with fail
  go_ret
  exact ⟨_, rfl, rfl, below_alloc _ _, Nat.le_refl _, 0, 0, Nat.le_refl _, HO.out⟩

end Go.Proofs.YtmfadjdpbobfhaaDoor
