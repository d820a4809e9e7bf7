/- Dates, on. -/
import Derived.Test.YtmfadjdpbobfhaaDoorDateM
namespace Go.Proofs.YtmfadjdpbobfhaaDoor
open Go.RowKit
set_option linter.unusedVariables false

set_option maxHeartbeats 1600000 in
set_option maxRecDepth 100000 in
theorem DateOf_ok (d0 : Int) (w : World) (h0 : 0 ≤ d0) (h1 : d0 ≤ 36524) :
    Calls Tryd.prog 118 #[.int .i64 d0] w fun e w' => (∃ y m d : Int, IsDate d0 y m d ∧ y ≤ 2100 ∧ e = .returned (.tuple #[.int .i64 y, .int .i64 m, .int .i64 (d + 1), .int .i64 0])) ∧ Below w.heap.size w w' := by
  have hin : inB d0 0 36524 = true := inB_iff.2 ⟨h0, h1⟩
  go_enter Tryd.func118, Tryd.ntmps118
  go_wp2_with (go_at_call 116; refine (isDay_eq hin _).mono ?_; rintro e w' ⟨rfl, rfl⟩)
  go_loopw [0, 6] (fun d y wr => ∃ (n k : Int), d = .int .i64 k ∧ y = .int .i64 n ∧ 2000 ≤ n ∧ 0 ≤ k ∧ d0 = Yb n + k ∧ Below w.heap.size w wr) (fun d _ _ => (intOf d).toNat)
  case atStart => exact ⟨2000, d0, rfl, rfl, by omega, h0, by simp [Yb], Below.refl _ _⟩
  case round =>
    obtain ⟨n, k, rfl, rfl, hn, hk, hd, hbel⟩ := hrel
    have HB := hid hbel
    clear hbel
    have hyb := Yb_low hn
    have hnb : n ≤ 2100 := by omega
    have hyl : 365 ≤ yearL n ∧ yearL n ≤ 366 := by unfold yearL; split <;> omega
    have e1 : IntKind.i64.wrap (k - yearL n) = k - yearL n := IntWalk.i64_in _ (by omega)
    have e2 : IntKind.i64.wrap (n + 1) = n + 1 := IntWalk.i64_in _ (by omega)
    have HD := hid hd
    clear hd
    by_cases hc : yearL n ≤ k
    · go_wp2_with (go_at_call 147; refine (yearDays_ok n _ (by omega) (by omega)).mono ?_; rintro e w' ⟨rfl, rfl⟩)
      go_roundw
      case rel => exact ⟨n + 1, k - yearL n, rfl, rfl, by omega, by omega, by rw [Yb_succ]; have := HD.out; omega, HB.out⟩
      case measure => simp [intOf]; omega
    · go_wp2_with (go_at_call 147; refine (yearDays_ok n _ (by omega) (by omega)).mono ?_; rintro e w' ⟨rfl, rfl⟩)
      go_loopw [0, 7] (fun d v wr => ∃ (m j : Int), d = .int .i64 j ∧ v = .int .i64 m ∧ 1 ≤ m ∧ m ≤ 12 ∧ 0 ≤ j ∧ k = Mb n m + j ∧ Below w.heap.size w wr) (fun d _ _ => (intOf d).toNat)
      case atStart => exact ⟨1, k, rfl, rfl, by omega, by omega, hk, by rw [Mb_one]; omega, HB.out⟩
      case round =>
        obtain ⟨m, j, rfl, rfl, hm1, hm2, hj, hkj, hbel⟩ := hrel
        have HB2 := hid hbel
        clear hbel
        have hl := lenM_pos (y := n) (m := m)
        have hmb := Mb_in (y := n) hm1 hm2
        have e3 : IntKind.i64.wrap (j - lenM n m) = j - lenM n m := IntWalk.i64_in _ (by omega)
        have e4 : IntKind.i64.wrap (m + 1) = m + 1 := IntWalk.i64_in _ (by omega)
        have e5 : IntKind.i64.wrap (j + 1) = j + 1 := IntWalk.i64_in _ (by omega)
        by_cases hc2 : lenM n m ≤ j
        · have hm3 : m ≠ 12 := by
            rintro rfl
            have := Mb_end n
            omega
          have HK := hid hkj
          clear hkj
          go_wp2_with (go_at_call 148; refine (monthDays_ok n m _ (by omega) (by omega) hm1 hm2).mono ?_; rintro e w' ⟨rfl, rfl⟩)
          go_roundw
          case rel => exact ⟨m + 1, j - lenM n m, rfl, rfl, by omega, by omega, by omega, by rw [Mb_succ hm1 hm2]; have := HK.out; omega, HB2.out⟩
          case measure => simp [intOf]; omega
        · have HK := hid hkj
          clear hkj
          go_wp2_with (go_at_call 148; refine (monthDays_ok n m _ (by omega) (by omega) hm1 hm2).mono ?_; rintro e w' ⟨rfl, rfl⟩)
          have hd := HD.out
          have hkj := HK.out
          exact bodyPost_ret (v := .tuple #[.int .i64 n, .int .i64 m, .int .i64 (j + 1), .int .i64 0]) (by simp [results, Tryd.results118, go_sem]) rfl ⟨⟨n, m, j, ⟨hn, hm1, hm2, hj, by omega, by omega⟩, hnb, rfl⟩, HB2.out⟩

end Go.Proofs.YtmfadjdpbobfhaaDoor
