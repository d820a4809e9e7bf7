/- The laws' marks: numbers and texts laid into a slice, and whether they are held. -/
import Derived.Test.YtmfadjdpbobfhaaDoorInts
import Derived.Test.YtmfadjdpbobfhaaDoorFrame
import Derived.Test.YtmfadjdpbobfhaaDoorDig
import Derived.Test.YtmfadjdpbobfhaaDoorHas
namespace Go.Proofs.YtmfadjdpbobfhaaDoor
open Go.RowKit
set_option linter.unusedVariables false

theorem HasC.chg {l h : Nat} {w w' : World} {b : Nat} {cs : List Value} (p : HasC w b cs) (q : Chg l h w w') (hb : b < l) : HasC w' b cs :=
  ⟨Nat.lt_of_lt_of_le p.1 q.size, fun i v hi => (World.cell?_of_block (w := w) (q.block b p.1 (.inl hb))).trans (p.2 i v hi)⟩

def MarkRel (w : World) (B h n : Nat) (k : Int) (ns : List Int) (A : Option Addr) (c : Nat) (i m : Value) (wr : World) : Prop :=
  ∃ j : Nat, j ≤ n ∧ i = .int .i64 j ∧ m = .int .i64 (k + j) ∧ wr.ownsRow B 2 1 (.slice A n c) n ((countI k j ++ ns.drop j).map (Value.int .i64)) ∧ Chg B h w wr

theorem own_cell {w : World} {B : Nat} {e : TypeId} {K n c g : Nat} {xs : List Value} (h : w.ownsRow B e K (.slice (some ⟨g, 0, none⟩) n c) n xs) {q : Nat} (hq : q < n * K) : ∃ u, w.cell? ⟨g, q, none⟩ = some u := by
  rw [h.cellAt q hq]
  exact ⟨_, List.getElem?_eq_getElem (by rw [h.1]; exact hq)⟩
theorem heldInts_own {w : World} {B : Nat} {e : TypeId} {A : Option Addr} {n c : Nat} {k : Int} (h : w.ownsRow B e 1 (.slice A n c) n ((countI k n).map (Value.int .i64))) : IntsAt w A (countI k n) := ints_own h

/-- the text of a mark -/
def markT (k : Nat) : ByteArray := ⟨(109 :: digL k).toArray⟩
theorem markT_size {k : Nat} (h : k ≤ 9223372036854775807) : (markT k).size ≤ 21 := by
  have := digL_length h
  simp [markT, ByteArray.size]
  omega

set_option maxHeartbeats 1600000 in
set_option maxRecDepth 100000 in
theorem markText_ok (k : Nat) (w : World) (h0 : 0 < k) (h1 : k ≤ 9223372036854775807) :
    Calls Tryd.prog 62 #[.int .i64 k] w fun e w' => e = .returned (.string (markT k)) ∧ Below w.heap.size w w' := by
  have e0 : decide ((k : Int) ≤ 0) = false := by simp; omega
  go_enter Tryd.func62, Tryd.ntmps62
  go_wp2_with fail
  go_loopw [0, 3] (fun m v wr => ∃ (u : Nat) (ds : List UInt8), m = .int .i64 u ∧ u ≤ k ∧ v = .string ⟨ds.toArray⟩ ∧ digL u ++ ds = digL k ∧ Below w.heap.size w wr) (fun m _ _ => (intOf m).toNat)
  case atStart => exact ⟨k, [], rfl, Nat.le_refl _, rfl, by simp, Below.refl _ _⟩
  case round =>
    obtain ⟨u, ds, rfl, hu, rfl, hds, hbel⟩ := hrel
    have hlen : ds.length ≤ 20 := by
      have := congrArg List.length hds
      have h3 := digL_length h1
      rw [List.length_append] at this
      omega
    have HD := hid hds
    clear hds
    have hsz : (⟨ds.toArray⟩ : ByteArray).size = ds.length := by simp [ByteArray.size]
    by_cases hz : 0 < u
    · have hds2 := hid (show digL (u / 10) ++ (UInt8.ofNat (48 + u % 10) :: ds) = digL k by rw [← HD.out, digL_step hz, List.append_assoc]; rfl)
      have e1 : ¬ (9223372036854775807 < 1 + (⟨ds.toArray⟩ : ByteArray).size) := by omega
      have BW := hid hbel
      have HS := hid hsz
      have en : ((UInt8.ofNat (48 + u % 10)).toNat : Int) = 48 + (u : Int) % 10 := by simp; omega
      have hconv := run_convert_bytes_back (P := Tryd.prog) (wr.alloc (.cells #[.int .u8 (48 + (u : Int) % 10)] 5)) 59 9 5 ⟨wr.heap.size, 0, none⟩ 1 [UInt8.ofNat (48 + u % 10)] Tryd.underlying59 Tryd.underlying5 Tryd.underlying9 (fun j hj => by
        obtain rfl : j = 0 := by simpa using hj
        show _ = some (Value.int .u8 ((UInt8.ofNat (48 + u % 10)).toNat : Int))
        rw [en]
        simp [Addr.add])
      simp only [List.length_cons, List.length_nil, Nat.zero_add] at hconv
      have hz1 : u / 10 < u := by omega
      have ht : ((u : Int) / 10).toNat = u / 10 := by omega
      have hcat := hid (show (⟨[UInt8.ofNat (48 + u % 10)].toArray⟩ ++ ⟨ds.toArray⟩ : ByteArray) = ⟨(UInt8.ofNat (48 + u % 10) :: ds).toArray⟩ from ByteArray.ext (by simp))
      clear hsz hbel en
      go_wp2_with fail
      go_roundw
      case rel => exact ⟨u / 10, UInt8.ofNat (48 + u % 10) :: ds, by go_num, by omega, by rw [← hcat.out]; simp, hds2.out, (below_alloc _ _).mono BW.out.size |> BW.out.trans⟩
      case measure => simp [intOf]; omega
    · have hz0 : u = 0 := by omega
      subst hz0
      have e2 : ds = digL k := by have := HD.out; rw [digL_zero] at this; simpa using this
      have H2 := hid e2
      have e1 : ¬ (9223372036854775807 < 1 + (⟨ds.toArray⟩ : ByteArray).size) := by omega
      have HS := hid hsz
      clear e2 hsz
      go_wp2_with fail
      go_ret
      exact ⟨by rw [H2.out, markT]; rfl, hbel⟩

theorem markText_i (z : Int) (w : World) (h0 : 0 < z) (h1 : z ≤ 4611686018427387904) :
    Calls Tryd.prog 62 #[.int .i64 z] w fun e w' => e = .returned (.string (markT z.toNat)) ∧ Below w.heap.size w w' := by
  obtain ⟨k, rfl⟩ : ∃ k : Nat, z = k := ⟨z.toNat, by omega⟩
  exact markText_ok k w (by omega) (by omega)

end Go.Proofs.YtmfadjdpbobfhaaDoor
