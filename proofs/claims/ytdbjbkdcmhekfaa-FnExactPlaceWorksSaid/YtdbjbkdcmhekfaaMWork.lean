/- The laws' marks laid into a slice of Work: the blocks that turn. -/
import Derived.Test.YtdbjbkdcmhekfaaMarks
import Derived.Test.YtdbjbkdcmhekfaaRowsKit
namespace Go.Proofs.Ytdbjbkdcmhekfaa
open Go.RowKit
set_option linter.unusedVariables false

set_option maxHeartbeats 1600000 in
set_option maxRecDepth 100000 in
theorem markWorkS_ok (A : Option Addr) (c n B h : Nat) (xs : List Value) (k : Int) (w : World) (hown : w.ownsRow B 132 4 (.slice A n c) n xs) (hlt : ∀ g, (Value.slice A n c).ownBlock = some g → g < h) (hk0 : 0 < k) (hk1 : k ≤ 1000000000000000) (hn : n ≤ 1099511627776) :
    Calls Try.prog 30 #[.slice A n c, .int .i64 k] w fun e w' => (∃ z : Int, e = .returned (.int .i64 z) ∧ 0 < z ∧ z ≤ k + 4 * (n : Int)) ∧ Chg B h w w' := by
  have HL := hid hlt
  have HO0 := hid hown
  clear hlt hown
  go_enter Try.func30, Try.ntmps30
  go_wp2_with fail
  go_loopw [5, 1] (fun i m wr => ∃ (j : Nat) (z : Int) (ys : List Value), j ≤ n ∧ i = .int .i64 j ∧ m = .int .i64 z ∧ 0 < z ∧ z ≤ k + 4 * (j : Int) ∧ wr.ownsRow B 132 4 (.slice A n c) n ys ∧ Chg B h w wr) (fun i _ _ => n - (intOf i).toNat)
  case atStart => exact ⟨0, k, xs, Nat.zero_le _, rfl, rfl, hk0, by omega, HO0.out, Chg.refl _ _ _⟩
  case round =>
    obtain ⟨j, z, ys, hj, rfl, rfl, hz0, hz1, hown, hch⟩ := hrel
    by_cases hjl : j < n
    · obtain ⟨g, cap, hv, hBg, _, _⟩ := own_form hown (by omega)
      obtain ⟨rfl, _, rfl⟩ : A = some ⟨g, 0, none⟩ ∧ n = n ∧ c = cap := by injection hv with a1 a2 a3; exact ⟨a1, a2, a3⟩
      have hgh := HL.out g rfl
      have O0 := hid hown
      have C0 := hid hch
      clear hown hv hch HL HO0
      go_wp2_with fail
      refine (markText_i _ _ (by omega) (by omega)).mono ?_
      rintro e w1 ⟨rfl, hb⟩
      have P0 := hid (own_below O0.out hb)
      have Q0 := hid (C0.out.then_below hb)
      clear hb
      obtain ⟨u0, hold0⟩ := own_cell P0.out (q := j * 4) (by omega)
      have hfr0 := P0.out.frozenAt (j * 4)
      obtain ⟨u1, hold1⟩ := own_cell P0.out (q := j * 4 + 1) (by omega)
      have hfr1 := P0.out.frozenAt (j * 4 + 1)
      obtain ⟨u2, hold2⟩ := own_cell P0.out (q := j * 4 + 2) (by omega)
      have hfr2 := P0.out.frozenAt (j * 4 + 2)
      obtain ⟨u3, hold3⟩ := own_cell P0.out (q := j * 4 + 3) (by omega)
      have hfr3 := P0.out.frozenAt (j * 4 + 3)
      have O1 := hid (own_setCells [.string (markT (z).toNat), .int .i64 (z + 1), .int .i64 (z + 1 + 1), .int .i64 (z + 1 + 1 + 1)] (p := j * 4) P0.out)
      have C1 := hid (Chg.setCells hBg hgh [.string (markT (z).toNat), .int .i64 (z + 1), .int .i64 (z + 1 + 1), .int .i64 (z + 1 + 1 + 1)] (p := j * 4) Q0.out)
      go_wp2_with fail
      go_roundw
      case rel => exact ⟨j + 1, z + 1 + 1 + 1 + 1, _, by omega, by go_num, by go_num, by omega, by omega, O1.out, C1.out⟩
      case measure => simp [intOf]; omega
    · have HC := hid hch
      clear hown hch
      go_wp2_with fail
      go_ret
      exact ⟨⟨_, rfl, by omega, by omega⟩, HC.out⟩

end Go.Proofs.Ytdbjbkdcmhekfaa
