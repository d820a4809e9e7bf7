/- The laws' marks: numbers and texts laid into a slice, and whether they are held. -/
import Derived.Test.YtdbjbkdcmhekfaaInts
import Derived.Test.YtdbjbkdcmhekfaaFrame
import Derived.Test.YtdbjbkdcmhekfaaDig
import Derived.Test.YtdbjbkdcmhekfaaHas
namespace Go.Proofs.Ytdbjbkdcmhekfaa
open Go.RowKit
set_option linter.unusedVariables false

theorem HasC.chg {l h : Nat} {w w' : World} {b : Nat} {cs : List Value} (p : HasC w b cs) (q : Chg l h w w') (hb : b < l) : HasC w' b cs :=
  ⟨Nat.lt_of_lt_of_le p.1 q.size, fun i v hi => (World.cell?_of_block (w := w) (q.block b p.1 (.inl hb))).trans (p.2 i v hi)⟩

def MarkRel (w : World) (B h n : Nat) (k : Int) (ns : List Int) (A : Option Addr) (c : Nat) (i m : Value) (wr : World) : Prop :=
  ∃ j : Nat, j ≤ n ∧ i = .int .i64 j ∧ m = .int .i64 (k + j) ∧ wr.ownsRow B 2 1 (.slice A n c) n ((countI k j ++ ns.drop j).map (Value.int .i64)) ∧ Chg B h w wr

set_option maxHeartbeats 800000 in
set_option maxRecDepth 100000 in
theorem markInt64S_ok (A : Option Addr) (c B h : Nat) (ns : List Int) (k : Int) (w : World) (hown : w.ownsRow B 2 1 (.slice A ns.length c) ns.length (ns.map (Value.int .i64))) (hlt : ∀ g, (Value.slice A ns.length c).ownBlock = some g → g < h) (hk0 : 0 ≤ k) (hk1 : k ≤ 1000000000000000) (hn : ns.length ≤ 1099511627776) :
    Calls Try.prog 16 #[.slice A ns.length c, .int .i64 k] w fun e w' => e = .returned (.int .i64 (k + ns.length)) ∧ w'.ownsRow B 2 1 (.slice A ns.length c) ns.length ((countI k ns.length).map (Value.int .i64)) ∧ Chg B h w w' := by
  have HL := hid hlt
  have HO0 := hid hown
  clear hlt hown
  go_enter Try.func16, Try.ntmps16
  go_wp2_with fail
  go_loopw [5, 1] (fun i m wr => MarkRel w B h ns.length k ns A c i m wr) (fun i _ _ => ns.length - (intOf i).toNat)
  case atStart => exact ⟨0, Nat.zero_le _, rfl, by simp, by simpa [countI] using HO0.out, Chg.refl _ _ _⟩
  case round =>
    obtain ⟨j, hj, rfl, rfl, hown, hch⟩ := hrel
    by_cases hjl : j < ns.length
    · obtain ⟨g, cap, hv, hBg, _, _⟩ := own_form hown (by omega)
      obtain ⟨rfl, _, rfl⟩ : A = some ⟨g, 0, none⟩ ∧ ns.length = ns.length ∧ c = cap := by injection hv with a1 a2 a3; exact ⟨a1, a2, a3⟩
      have hold : wr.cell? ⟨g, j, none⟩ = some (.int .i64 ns[j]) := by
        rw [hown.cellAt j (by omega), List.getElem?_map, List.getElem?_append_right (by rw [countI_length]; omega), countI_length, List.getElem?_drop]
        simp [List.getElem?_eq_getElem hjl]
      have hfr := hown.frozenAt j
      have HS := hid (hown.stored j (.int .i64 (k + j)))
      have HC := hid (Chg.setCell (p := ⟨g, j, none⟩) hch (.int .i64 (k + j)) hBg (HL.out g rfl))
      clear hown hv hBg
      go_wp2_with fail
      go_roundw
      case rel =>
        refine ⟨j + 1, by omega, by go_num, by go_num, ?_, HC.out⟩
        have e := HS.out.1
        rw [← List.map_set (f := Value.int .i64), count_set hjl] at e
        exact e
      case measure => simp [intOf]; omega
    · have hj2 : j = ns.length := by omega
      subst hj2
      have HO := hid hown
      clear hown
      go_wp2_with fail
      go_ret
      exact ⟨rfl, by have := HO.out; simpa using this, hch⟩

set_option maxHeartbeats 800000 in
set_option maxRecDepth 100000 in
/-- the blocks that turn -/
theorem markInt64R_ok (A : Option Addr) (c B h n : Nat) (xs : List Value) (k : Int) (w : World) (hown : w.ownsRow B 2 1 (.slice A n c) n xs) (hlt : ∀ g, (Value.slice A n c).ownBlock = some g → g < h) (hk0 : 0 < k) (hk1 : k ≤ 1000000000000000) (hn : n ≤ 1099511627776) :
    Calls Try.prog 16 #[.slice A n c, .int .i64 k] w fun e w' => (∃ z : Int, e = .returned (.int .i64 z) ∧ 0 < z ∧ z ≤ k + 1 * (n : Int)) ∧ Chg B h w w' := by
  have HL := hid hlt
  have HO0 := hid hown
  clear hlt hown
  go_enter Try.func16, Try.ntmps16
  go_wp2_with fail
  go_loopw [5, 1] (fun i m wr => ∃ (j : Nat) (z : Int) (ys : List Value), j ≤ n ∧ i = .int .i64 j ∧ m = .int .i64 z ∧ 0 < z ∧ z ≤ k + 1 * (j : Int) ∧ wr.ownsRow B 2 1 (.slice A n c) n ys ∧ Chg B h w wr) (fun i _ _ => n - (intOf i).toNat)
  case atStart => exact ⟨0, k, xs, Nat.zero_le _, rfl, rfl, hk0, by omega, HO0.out, Chg.refl _ _ _⟩
  case round =>
    obtain ⟨j, z, ys, hj, rfl, rfl, hz0, hz1, hown, hch⟩ := hrel
    by_cases hjl : j < n
    · obtain ⟨g, cap, hv, hBg, _, _⟩ := own_form hown (by omega)
      obtain ⟨rfl, _, rfl⟩ : A = some ⟨g, 0, none⟩ ∧ n = n ∧ c = cap := by injection hv with a1 a2 a3; exact ⟨a1, a2, a3⟩
      obtain ⟨u, hold⟩ : ∃ u, wr.cell? ⟨g, j, none⟩ = some u := by
        rw [hown.cellAt j (by omega)]
        exact ⟨_, List.getElem?_eq_getElem (by rw [hown.1]; omega)⟩
      have hfr := hown.frozenAt j
      have HS := hid (hown.stored j (.int .i64 z))
      have HC := hid (Chg.setCell (p := ⟨g, j, none⟩) hch (.int .i64 z) hBg (HL.out g rfl))
      clear hown hv hBg
      go_wp2_with fail
      go_roundw
      case rel => exact ⟨j + 1, z + 1, _, by omega, by go_num, by go_num, by omega, by omega, HS.out.1, HC.out⟩
      case measure => simp [intOf]; omega
    · have HC := hid hch
      clear hown hch
      go_wp2_with fail
      go_ret
      exact ⟨⟨_, rfl, by omega, by omega⟩, HC.out⟩

set_option maxHeartbeats 800000 in
set_option maxRecDepth 100000 in
theorem heldInt64S_ok (A : Option Addr) (c n : Nat) (k : Int) (w : World) (hA : IntsAt w A (countI k n)) (hk0 : 0 ≤ k) (hk1 : k ≤ 1000000000000000) (hn : n ≤ 1099511627776) :
    Calls Try.prog 17 #[.slice A n c, .int .i64 k] w fun e w' => e = .returned (.int .i64 (k + n)) ∧ w = w' := by
  have HA := hid hA
  clear hA
  go_enter Try.func17, Try.ntmps17
  go_wp2_with fail
  go_loop [5, 1] (fun i m => ∃ j : Nat, j ≤ n ∧ i = .int .i64 j ∧ m = .int .i64 (k + j)) (fun i _ => n - (intOf i).toNat)
  case atStart => exact ⟨0, Nat.zero_le _, rfl, by simp⟩
  case round =>
    obtain ⟨j, hj, rfl, rfl⟩ := hrel
    by_cases hjl : j < n
    · obtain ⟨b, o, rfl, hlt, hc⟩ := HA.out (by intro e; have := congrArg List.length e; rw [countI_length] at this; simp at this; omega)
      have hcell : w.cell? ⟨b, o + j, none⟩ = some (.int .i64 (k + (j : Int))) := hc j _ (countI_at hjl)
      clear hc
      go_wp2_with fail
      go_round
      case rel => exact ⟨j + 1, by omega, by go_num, by go_num⟩
      case measure => simp [intOf]; omega
    · have hj2 : j = n := by omega
      subst hj2
      go_wp2_with fail
      go_ret
      exact ⟨rfl, rfl⟩

theorem own_cell {w : World} {B : Nat} {e : TypeId} {K n c g : Nat} {xs : List Value} (h : w.ownsRow B e K (.slice (some ⟨g, 0, none⟩) n c) n xs) {q : Nat} (hq : q < n * K) : ∃ u, w.cell? ⟨g, q, none⟩ = some u := by
  rw [h.cellAt q hq]
  exact ⟨_, List.getElem?_eq_getElem (by rw [h.1]; exact hq)⟩
theorem heldInts_own {w : World} {B : Nat} {e : TypeId} {A : Option Addr} {n c : Nat} {k : Int} (h : w.ownsRow B e 1 (.slice A n c) n ((countI k n).map (Value.int .i64))) : IntsAt w A (countI k n) := ints_own h

/-- the text of a mark -/
def markT (k : Nat) : ByteArray := ⟨(109 :: digL k).toArray⟩
theorem markT_size {k : Nat} (h : k ≤ 9223372036854775807) : (markT k).size ≤ 21 := by
  have := digL_length h
  simp [markT, ByteArray.size]
  omega

set_option maxHeartbeats 1600000 in
set_option maxRecDepth 100000 in
theorem markText_ok (k : Nat) (w : World) (h0 : 0 < k) (h1 : k ≤ 9223372036854775807) :
    Calls Try.prog 76 #[.int .i64 k] w fun e w' => e = .returned (.string (markT k)) ∧ Below w.heap.size w w' := by
  have e0 : decide ((k : Int) ≤ 0) = false := by simp; omega
  go_enter Try.func76, Try.ntmps76
  go_wp2_with fail
  go_loopw [0, 3] (fun m v wr => ∃ (u : Nat) (ds : List UInt8), m = .int .i64 u ∧ u ≤ k ∧ v = .string ⟨ds.toArray⟩ ∧ digL u ++ ds = digL k ∧ Below w.heap.size w wr) (fun m _ _ => (intOf m).toNat)
  case atStart => exact ⟨k, [], rfl, Nat.le_refl _, rfl, by simp, Below.refl _ _⟩
  case round =>
    obtain ⟨u, ds, rfl, hu, rfl, hds, hbel⟩ := hrel
    have hlen : ds.length ≤ 20 := by
      have := congrArg List.length hds
      have h3 := digL_length h1
      rw [List.length_append] at this
      omega
    have HD := hid hds
    clear hds
    have hsz : (⟨ds.toArray⟩ : ByteArray).size = ds.length := by simp [ByteArray.size]
    by_cases hz : 0 < u
    · have hds2 := hid (show digL (u / 10) ++ (UInt8.ofNat (48 + u % 10) :: ds) = digL k by rw [← HD.out, digL_step hz, List.append_assoc]; rfl)
      have e1 : ¬ (9223372036854775807 < 1 + (⟨ds.toArray⟩ : ByteArray).size) := by omega
      have BW := hid hbel
      have HS := hid hsz
      have en : ((UInt8.ofNat (48 + u % 10)).toNat : Int) = 48 + (u : Int) % 10 := by simp; omega
      have hconv := run_convert_bytes_back (P := Try.prog) (wr.alloc (.cells #[.int .u8 (48 + (u : Int) % 10)] 5)) 71 9 5 ⟨wr.heap.size, 0, none⟩ 1 [UInt8.ofNat (48 + u % 10)] Try.underlying71 Try.underlying5 Try.underlying9 (fun j hj => by
        obtain rfl : j = 0 := by simpa using hj
        show _ = some (Value.int .u8 ((UInt8.ofNat (48 + u % 10)).toNat : Int))
        rw [en]
        simp [Addr.add])
      simp only [List.length_cons, List.length_nil, Nat.zero_add] at hconv
      have hz1 : u / 10 < u := by omega
      have ht : ((u : Int) / 10).toNat = u / 10 := by omega
      have hcat := hid (show (⟨[UInt8.ofNat (48 + u % 10)].toArray⟩ ++ ⟨ds.toArray⟩ : ByteArray) = ⟨(UInt8.ofNat (48 + u % 10) :: ds).toArray⟩ from ByteArray.ext (by simp))
      clear hsz hbel en
      go_wp2_with fail
      go_roundw
      case rel => exact ⟨u / 10, UInt8.ofNat (48 + u % 10) :: ds, by go_num, by omega, by rw [← hcat.out]; simp, hds2.out, (below_alloc _ _).mono BW.out.size |> BW.out.trans⟩
      case measure => simp [intOf]; omega
    · have hz0 : u = 0 := by omega
      subst hz0
      have e2 : ds = digL k := by have := HD.out; rw [digL_zero] at this; simpa using this
      have H2 := hid e2
      have e1 : ¬ (9223372036854775807 < 1 + (⟨ds.toArray⟩ : ByteArray).size) := by omega
      have HS := hid hsz
      clear e2 hsz
      go_wp2_with fail
      go_ret
      exact ⟨by rw [H2.out, markT]; rfl, hbel⟩

theorem markText_i (z : Int) (w : World) (h0 : 0 < z) (h1 : z ≤ 4611686018427387904) :
    Calls Try.prog 76 #[.int .i64 z] w fun e w' => e = .returned (.string (markT z.toNat)) ∧ Below w.heap.size w w' := by
  obtain ⟨k, rfl⟩ : ∃ k : Nat, z = k := ⟨z.toNat, by omega⟩
  exact markText_ok k w (by omega) (by omega)

end Go.Proofs.Ytdbjbkdcmhekfaa
