/- Contracts of the small range tests. -/
import Derived.Test.YtnekigpeknenjaaBasic
namespace Go.Proofs.Ytnekigpeknenjaa
open Go.RowKit

theorem isDry_ok (n : Int) (w : World) : Calls Try.prog 112 #[.int .i64 n] w fun e w' => e = .returned (.bool (inB n 0 4000)) ∧ w = w' := by
  go_enter Try.func112, Try.ntmps112
  go_wp2_with (go_at_call 123; refine (within_ok _ _ _ _).mono ?_; rintro e w' ⟨rfl, rfl⟩)
  go_ret
  exact ⟨rfl, rfl⟩
theorem isDry_eq {n : Int} {v : Bool} (h : inB n 0 4000 = v) (w : World) : Calls Try.prog 112 #[.int .i64 n] w fun e w' => e = .returned (.bool v) ∧ w = w' := h ▸ isDry_ok n w
theorem l04Days_ok (n : Int) (w : World) : Calls Try.prog 105 #[.int .i64 n] w fun e w' => e = .returned (.bool (inB n 0 4000)) ∧ w = w' := by
  go_enter Try.func105, Try.ntmps105
  go_wp2_with (go_at_call 117; refine (l00In_ok _ _ _ _).mono ?_; rintro e w' ⟨rfl, rfl⟩)
  go_ret
  exact ⟨rfl, rfl⟩
theorem l04Days_eq {n : Int} {v : Bool} (h : inB n 0 4000 = v) (w : World) : Calls Try.prog 105 #[.int .i64 n] w fun e w' => e = .returned (.bool v) ∧ w = w' := h ▸ l04Days_ok n w
theorem isClamps_ok (n : Int) (w : World) : Calls Try.prog 124 #[.int .i64 n] w fun e w' => e = .returned (.bool (inB n 0 240)) ∧ w = w' := by
  go_enter Try.func124, Try.ntmps124
  go_wp2_with (go_at_call 123; refine (within_ok _ _ _ _).mono ?_; rintro e w' ⟨rfl, rfl⟩)
  go_ret
  exact ⟨rfl, rfl⟩
theorem isClamps_eq {n : Int} {v : Bool} (h : inB n 0 240 = v) (w : World) : Calls Try.prog 124 #[.int .i64 n] w fun e w' => e = .returned (.bool v) ∧ w = w' := h ▸ isClamps_ok n w
theorem isRentDay_ok (n : Int) (w : World) : Calls Try.prog 191 #[.int .i64 n] w fun e w' => e = .returned (.bool (inB n 0 100000)) ∧ w = w' := by
  go_enter Try.func191, Try.ntmps191
  go_wp2_with (go_at_call 123; refine (within_ok _ _ _ _).mono ?_; rintro e w' ⟨rfl, rfl⟩)
  go_ret
  exact ⟨rfl, rfl⟩
theorem isRentDay_eq {n : Int} {v : Bool} (h : inB n 0 100000 = v) (w : World) : Calls Try.prog 191 #[.int .i64 n] w fun e w' => e = .returned (.bool v) ∧ w = w' := h ▸ isRentDay_ok n w
theorem l21Day_ok (n : Int) (w : World) : Calls Try.prog 189 #[.int .i64 n] w fun e w' => e = .returned (.bool (inB n 0 100000)) ∧ w = w' := by
  go_enter Try.func189, Try.ntmps189
  go_wp2_with (go_at_call 117; refine (l00In_ok _ _ _ _).mono ?_; rintro e w' ⟨rfl, rfl⟩)
  go_ret
  exact ⟨rfl, rfl⟩
theorem l21Day_eq {n : Int} {v : Bool} (h : inB n 0 100000 = v) (w : World) : Calls Try.prog 189 #[.int .i64 n] w fun e w' => e = .returned (.bool v) ∧ w = w' := h ▸ l21Day_ok n w
theorem l20Year_ok (n : Int) (w : World) : Calls Try.prog 195 #[.int .i64 n] w fun e w' => e = .returned (.bool (inB n 1500 2100)) ∧ w = w' := by
  go_enter Try.func195, Try.ntmps195
  go_wp2_with (go_at_call 117; refine (l00In_ok _ _ _ _).mono ?_; rintro e w' ⟨rfl, rfl⟩)
  go_ret
  exact ⟨rfl, rfl⟩
theorem l20Year_eq {n : Int} {v : Bool} (h : inB n 1500 2100 = v) (w : World) : Calls Try.prog 195 #[.int .i64 n] w fun e w' => e = .returned (.bool v) ∧ w = w' := h ▸ l20Year_ok n w
theorem isPart_ok (n : Int) (w : World) : Calls Try.prog 110 #[.int .i64 n] w fun e w' => e = .returned (.bool (inB n 0 1000)) ∧ w = w' := by
  go_enter Try.func110, Try.ntmps110
  go_wp2_with (go_at_call 123; refine (within_ok _ _ _ _).mono ?_; rintro e w' ⟨rfl, rfl⟩)
  go_ret
  exact ⟨rfl, rfl⟩
theorem isPart_eq {n : Int} {v : Bool} (h : inB n 0 1000 = v) (w : World) : Calls Try.prog 110 #[.int .i64 n] w fun e w' => e = .returned (.bool v) ∧ w = w' := h ▸ isPart_ok n w
theorem l04Share_ok (n : Int) (w : World) : Calls Try.prog 103 #[.int .i64 n] w fun e w' => e = .returned (.bool (inB n 0 1000)) ∧ w = w' := by
  go_enter Try.func103, Try.ntmps103
  go_wp2_with (go_at_call 117; refine (l00In_ok _ _ _ _).mono ?_; rintro e w' ⟨rfl, rfl⟩)
  go_ret
  exact ⟨rfl, rfl⟩
theorem l04Share_eq {n : Int} {v : Bool} (h : inB n 0 1000 = v) (w : World) : Calls Try.prog 103 #[.int .i64 n] w fun e w' => e = .returned (.bool v) ∧ w = w' := h ▸ l04Share_ok n w
theorem l04Thick_ok (n : Int) (w : World) : Calls Try.prog 199 #[.int .i64 n] w fun e w' => e = .returned (.bool (inB n 10 1000)) ∧ w = w' := by
  go_enter Try.func199, Try.ntmps199
  go_wp2_with (go_at_call 117; refine (l00In_ok _ _ _ _).mono ?_; rintro e w' ⟨rfl, rfl⟩)
  go_ret
  exact ⟨rfl, rfl⟩
theorem l04Thick_eq {n : Int} {v : Bool} (h : inB n 10 1000 = v) (w : World) : Calls Try.prog 199 #[.int .i64 n] w fun e w' => e = .returned (.bool v) ∧ w = w' := h ▸ l04Thick_ok n w
theorem isDay_ok (n : Int) (w : World) : Calls Try.prog 111 #[.int .i64 n] w fun e w' => e = .returned (.bool (inB n 0 36524)) ∧ w = w' := by
  go_enter Try.func111, Try.ntmps111
  go_wp2_with (go_at_call 123; refine (within_ok _ _ _ _).mono ?_; rintro e w' ⟨rfl, rfl⟩)
  go_ret
  exact ⟨rfl, rfl⟩
theorem isDay_eq {n : Int} {v : Bool} (h : inB n 0 36524 = v) (w : World) : Calls Try.prog 111 #[.int .i64 n] w fun e w' => e = .returned (.bool v) ∧ w = w' := h ▸ isDay_ok n w
theorem l02Day_ok (n : Int) (w : World) : Calls Try.prog 104 #[.int .i64 n] w fun e w' => e = .returned (.bool (inB n 0 36524)) ∧ w = w' := by
  go_enter Try.func104, Try.ntmps104
  go_wp2_with (go_at_call 117; refine (l00In_ok _ _ _ _).mono ?_; rintro e w' ⟨rfl, rfl⟩)
  go_ret
  exact ⟨rfl, rfl⟩
theorem l02Day_eq {n : Int} {v : Bool} (h : inB n 0 36524 = v) (w : World) : Calls Try.prog 104 #[.int .i64 n] w fun e w' => e = .returned (.bool v) ∧ w = w' := h ▸ l02Day_ok n w
theorem l01Name_eq {s : ByteArray} {v : Bool} (h : nameB s = v) (w : World) (hs : s.size ≤ maxLen) : Calls Try.prog 190 #[.string s] w fun e w' => e = .returned (.bool v) ∧ w = w' := h ▸ l01Name_ok s w hs
theorem l00In_eq {n l h : Int} {v : Bool} (hh : inB n l h = v) (w : World) : Calls Try.prog 117 #[.int .i64 n, .int .i64 l, .int .i64 h] w fun e w' => e = .returned (.bool v) ∧ w = w' := hh ▸ l00In_ok n l h w

end Go.Proofs.Ytnekigpeknenjaa
