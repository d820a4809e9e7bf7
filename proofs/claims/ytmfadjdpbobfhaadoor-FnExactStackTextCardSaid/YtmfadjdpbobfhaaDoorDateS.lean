/- Dates, on. -/
import Derived.Test.YtmfadjdpbobfhaaDoorDateM
namespace Go.Proofs.YtmfadjdpbobfhaaDoor
open Go.RowKit
set_option linter.unusedVariables false

set_option maxHeartbeats 1600000 in
set_option maxRecDepth 100000 in
theorem l02Date_ok (d0 : Int) (w : World) (h0 : 0 ≤ d0) (h1 : d0 ≤ 36524) :
    Calls Tryd.prog 143 #[.int .i64 d0] w fun e w' => (∃ y m d : Int, IsDate d0 y m d ∧ y ≤ 2100 ∧ e = .returned (.tuple #[.int .i64 y, .int .i64 m, .int .i64 (d + 1)])) ∧ Below w.heap.size w w' := by
  go_enter Tryd.func143, Tryd.ntmps143
  go_wp2_with fail
  go_loopw [0, 5, 6] (fun d y v wr => ∃ (n m k : Int), d = .int .i64 k ∧ y = .int .i64 n ∧ v = .int .i64 m ∧ 2000 ≤ n ∧ 1 ≤ m ∧ m ≤ 12 ∧ 0 ≤ k ∧ d0 = Yb n + Mb n m + k ∧ Below w.heap.size w wr) (fun d _ _ _ => (intOf d).toNat)
  case atStart => exact ⟨2000, 1, d0, rfl, rfl, rfl, by omega, by omega, by omega, h0, by simp [Yb, Mb_one], Below.refl _ _⟩
  case round =>
    obtain ⟨n, m, k, rfl, rfl, rfl, hn, hm1, hm2, hk, hd, hbel⟩ := hrel
    have HB := hid hbel
    have hl := lenM_pos (y := n) (m := m)
    have hmb := Mb_in (y := n) hm1 hm2
    have hyb := Yb_low hn
    have hnb : n ≤ 2100 := by omega
    have e1 : IntKind.i64.wrap (k - lenM n m) = k - lenM n m := IntWalk.i64_in _ (by omega)
    have e2 : IntKind.i64.wrap (n + 1) = n + 1 := IntWalk.i64_in _ (by omega)
    have e3 : IntKind.i64.wrap (m + 1) = m + 1 := IntWalk.i64_in _ (by omega)
    have e4 : IntKind.i64.wrap (k + 1) = k + 1 := IntWalk.i64_in _ (by omega)
    clear hbel
    by_cases hc : lenM n m ≤ k
    · by_cases hm : 12 < m + 1
      · obtain rfl : m = 12 := by omega
        go_wp2_with (go_at_call 164; refine (l02Length_ok n 12 _ (by omega) (by omega) (by omega) (by omega)).mono ?_; rintro e w' ⟨rfl, hb⟩; have HB := hid (below_trans HB.out hb); clear hb)
        go_roundw
        case rel => exact ⟨n + 1, 1, k - lenM n 12, rfl, rfl, rfl, by omega, by omega, by omega, by omega, by rw [Yb_succ, Mb_one, ← Mb_end]; omega, HB.out⟩
        case measure => simp [intOf]; omega
      · go_wp2_with (go_at_call 164; refine (l02Length_ok n m _ (by omega) (by omega) hm1 hm2).mono ?_; rintro e w' ⟨rfl, hb⟩; have HB := hid (below_trans HB.out hb); clear hb)
        go_roundw
        case rel => exact ⟨n, m + 1, k - lenM n m, rfl, rfl, rfl, by omega, by omega, by omega, by omega, by rw [Mb_succ hm1 hm2]; omega, HB.out⟩
        case measure => simp [intOf]; omega
    · go_wp2_with (go_at_call 164; refine (l02Length_ok n m _ (by omega) (by omega) hm1 hm2).mono ?_; rintro e w' ⟨rfl, hb⟩; have HB := hid (below_trans HB.out hb); clear hb)
      exact bodyPost_ret (v := .tuple #[.int .i64 n, .int .i64 m, .int .i64 (k + 1)]) (by simp [results, Tryd.results143, go_sem]) rfl ⟨⟨n, m, k, ⟨hn, hm1, hm2, hk, by omega, by omega⟩, hnb, rfl⟩, HB.out⟩

end Go.Proofs.YtmfadjdpbobfhaaDoor
