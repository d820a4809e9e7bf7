/- Contracts of the small range tests. -/
import Derived.Test.YtjeklbhdngkngaaBasic
namespace Go.Proofs.Ytjeklbhdngkngaa
open Go.RowKit

theorem isRentDay_ok (n : Int) (w : World) : Calls Try.prog 111 #[.int .i64 n] w fun e w' => e = .returned (.bool (inB n 0 100000)) ∧ w = w' := by
  go_enter Try.func111, Try.ntmps111
  go_wp2_with (go_at_call 77; refine (within_ok _ _ _ _).mono ?_; rintro e w' ⟨rfl, rfl⟩)
  go_ret
  exact ⟨rfl, rfl⟩
theorem isRentDay_eq {n : Int} {v : Bool} (h : inB n 0 100000 = v) (w : World) : Calls Try.prog 111 #[.int .i64 n] w fun e w' => e = .returned (.bool v) ∧ w = w' := h ▸ isRentDay_ok n w
theorem l21Day_ok (n : Int) (w : World) : Calls Try.prog 160 #[.int .i64 n] w fun e w' => e = .returned (.bool (inB n 0 100000)) ∧ w = w' := by
  go_enter Try.func160, Try.ntmps160
  go_wp2_with (go_at_call 100; refine (l00In_ok _ _ _ _).mono ?_; rintro e w' ⟨rfl, rfl⟩)
  go_ret
  exact ⟨rfl, rfl⟩
theorem l21Day_eq {n : Int} {v : Bool} (h : inB n 0 100000 = v) (w : World) : Calls Try.prog 160 #[.int .i64 n] w fun e w' => e = .returned (.bool v) ∧ w = w' := h ▸ l21Day_ok n w
theorem l22Kind_ok (n : Int) (w : World) : Calls Try.prog 161 #[.int .i64 n] w fun e w' => e = .returned (.bool (inB n 1 4)) ∧ w = w' := by
  go_enter Try.func161, Try.ntmps161
  go_wp2_with (go_at_call 100; refine (l00In_ok _ _ _ _).mono ?_; rintro e w' ⟨rfl, rfl⟩)
  go_ret
  exact ⟨rfl, rfl⟩
theorem l22Kind_eq {n : Int} {v : Bool} (h : inB n 1 4 = v) (w : World) : Calls Try.prog 161 #[.int .i64 n] w fun e w' => e = .returned (.bool v) ∧ w = w' := h ▸ l22Kind_ok n w
theorem l21Money_ok (n : Int) (w : World) : Calls Try.prog 149 #[.int .i64 n] w fun e w' => e = .returned (.bool (inB n 0 10000000)) ∧ w = w' := by
  go_enter Try.func149, Try.ntmps149
  go_wp2_with (go_at_call 100; refine (l00In_ok _ _ _ _).mono ?_; rintro e w' ⟨rfl, rfl⟩)
  go_ret
  exact ⟨rfl, rfl⟩
theorem l21Money_eq {n : Int} {v : Bool} (h : inB n 0 10000000 = v) (w : World) : Calls Try.prog 149 #[.int .i64 n] w fun e w' => e = .returned (.bool v) ∧ w = w' := h ▸ l21Money_ok n w
theorem isMoney_ok (n : Int) (w : World) : Calls Try.prog 143 #[.int .i64 n] w fun e w' => e = .returned (.bool (inB n 0 10000000)) ∧ w = w' := by
  go_enter Try.func143, Try.ntmps143
  go_wp2_with (go_at_call 77; refine (within_ok _ _ _ _).mono ?_; rintro e w' ⟨rfl, rfl⟩)
  go_ret
  exact ⟨rfl, rfl⟩
theorem isMoney_eq {n : Int} {v : Bool} (h : inB n 0 10000000 = v) (w : World) : Calls Try.prog 143 #[.int .i64 n] w fun e w' => e = .returned (.bool v) ∧ w = w' := h ▸ isMoney_ok n w
theorem l26Count_ok (n : Int) (w : World) : Calls Try.prog 148 #[.int .i64 n] w fun e w' => e = .returned (.bool (inB n 0 100000)) ∧ w = w' := by
  go_enter Try.func148, Try.ntmps148
  go_wp2_with (go_at_call 100; refine (l00In_ok _ _ _ _).mono ?_; rintro e w' ⟨rfl, rfl⟩)
  go_ret
  exact ⟨rfl, rfl⟩
theorem l26Count_eq {n : Int} {v : Bool} (h : inB n 0 100000 = v) (w : World) : Calls Try.prog 148 #[.int .i64 n] w fun e w' => e = .returned (.bool v) ∧ w = w' := h ▸ l26Count_ok n w
theorem isPieces_ok (n : Int) (w : World) : Calls Try.prog 150 #[.int .i64 n] w fun e w' => e = .returned (.bool (inB n 0 100000)) ∧ w = w' := by
  go_enter Try.func150, Try.ntmps150
  go_wp2_with (go_at_call 77; refine (within_ok _ _ _ _).mono ?_; rintro e w' ⟨rfl, rfl⟩)
  go_ret
  exact ⟨rfl, rfl⟩
theorem isPieces_eq {n : Int} {v : Bool} (h : inB n 0 100000 = v) (w : World) : Calls Try.prog 150 #[.int .i64 n] w fun e w' => e = .returned (.bool v) ∧ w = w' := h ▸ isPieces_ok n w
theorem l01Name_eq {s : ByteArray} {v : Bool} (h : nameB s = v) (w : World) (hs : s.size ≤ maxLen) : Calls Try.prog 147 #[.string s] w fun e w' => e = .returned (.bool v) ∧ w = w' := h ▸ l01Name_ok s w hs
theorem l00In_eq {n l h : Int} {v : Bool} (hh : inB n l h = v) (w : World) : Calls Try.prog 100 #[.int .i64 n, .int .i64 l, .int .i64 h] w fun e w' => e = .returned (.bool v) ∧ w = w' := hh ▸ l00In_ok n l h w

end Go.Proofs.Ytjeklbhdngkngaa
