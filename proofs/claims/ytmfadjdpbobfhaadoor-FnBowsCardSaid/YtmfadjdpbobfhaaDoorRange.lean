/- Contracts of the small range tests. -/
import Derived.Test.YtmfadjdpbobfhaaDoorBasic
namespace Go.Proofs.YtmfadjdpbobfhaaDoor
open Go.RowKit

theorem isPlace_ok (n : Int) (w : World) : Calls Tryd.prog 89 #[.int .i64 n] w fun e w' => e = .returned (.bool (inB n 0 8000)) ∧ w = w' := by
  go_enter Tryd.func89, Tryd.ntmps89
  go_wp2_with (go_at_call 88; refine (within_ok _ _ _ _).mono ?_; rintro e w' ⟨rfl, rfl⟩)
  go_ret
  exact ⟨rfl, rfl⟩
theorem isPlace_eq {n : Int} {v : Bool} (h : inB n 0 8000 = v) (w : World) : Calls Tryd.prog 89 #[.int .i64 n] w fun e w' => e = .returned (.bool v) ∧ w = w' := h ▸ isPlace_ok n w
theorem l11At_ok (n : Int) (w : World) : Calls Tryd.prog 121 #[.int .i64 n] w fun e w' => e = .returned (.bool (inB n 0 8000)) ∧ w = w' := by
  go_enter Tryd.func121, Tryd.ntmps121
  go_wp2_with (go_at_call 95; refine (l00In_ok _ _ _ _).mono ?_; rintro e w' ⟨rfl, rfl⟩)
  go_ret
  exact ⟨rfl, rfl⟩
theorem l11At_eq {n : Int} {v : Bool} (h : inB n 0 8000 = v) (w : World) : Calls Tryd.prog 121 #[.int .i64 n] w fun e w' => e = .returned (.bool v) ∧ w = w' := h ▸ l11At_ok n w
theorem isYear_ok (n : Int) (w : World) : Calls Tryd.prog 155 #[.int .i64 n] w fun e w' => e = .returned (.bool (inB n 0 2100)) ∧ w = w' := by
  go_enter Tryd.func155, Tryd.ntmps155
  go_wp2_with (go_at_call 88; refine (within_ok _ _ _ _).mono ?_; rintro e w' ⟨rfl, rfl⟩)
  go_ret
  exact ⟨rfl, rfl⟩
theorem isYear_eq {n : Int} {v : Bool} (h : inB n 0 2100 = v) (w : World) : Calls Tryd.prog 155 #[.int .i64 n] w fun e w' => e = .returned (.bool v) ∧ w = w' := h ▸ isYear_ok n w
theorem l19Year_ok (n : Int) (w : World) : Calls Tryd.prog 125 #[.int .i64 n] w fun e w' => e = .returned (.bool (inB n 0 2100)) ∧ w = w' := by
  go_enter Tryd.func125, Tryd.ntmps125
  go_wp2_with (go_at_call 95; refine (l00In_ok _ _ _ _).mono ?_; rintro e w' ⟨rfl, rfl⟩)
  go_ret
  exact ⟨rfl, rfl⟩
theorem l19Year_eq {n : Int} {v : Bool} (h : inB n 0 2100 = v) (w : World) : Calls Tryd.prog 125 #[.int .i64 n] w fun e w' => e = .returned (.bool v) ∧ w = w' := h ▸ l19Year_ok n w
theorem isRentDay_ok (n : Int) (w : World) : Calls Tryd.prog 156 #[.int .i64 n] w fun e w' => e = .returned (.bool (inB n 0 100000)) ∧ w = w' := by
  go_enter Tryd.func156, Tryd.ntmps156
  go_wp2_with (go_at_call 88; refine (within_ok _ _ _ _).mono ?_; rintro e w' ⟨rfl, rfl⟩)
  go_ret
  exact ⟨rfl, rfl⟩
theorem isRentDay_eq {n : Int} {v : Bool} (h : inB n 0 100000 = v) (w : World) : Calls Tryd.prog 156 #[.int .i64 n] w fun e w' => e = .returned (.bool v) ∧ w = w' := h ▸ isRentDay_ok n w
theorem l21Day_ok (n : Int) (w : World) : Calls Tryd.prog 128 #[.int .i64 n] w fun e w' => e = .returned (.bool (inB n 0 100000)) ∧ w = w' := by
  go_enter Tryd.func128, Tryd.ntmps128
  go_wp2_with (go_at_call 95; refine (l00In_ok _ _ _ _).mono ?_; rintro e w' ⟨rfl, rfl⟩)
  go_ret
  exact ⟨rfl, rfl⟩
theorem l21Day_eq {n : Int} {v : Bool} (h : inB n 0 100000 = v) (w : World) : Calls Tryd.prog 128 #[.int .i64 n] w fun e w' => e = .returned (.bool v) ∧ w = w' := h ▸ l21Day_ok n w
theorem l22Kind_ok (n : Int) (w : World) : Calls Tryd.prog 130 #[.int .i64 n] w fun e w' => e = .returned (.bool (inB n 1 4)) ∧ w = w' := by
  go_enter Tryd.func130, Tryd.ntmps130
  go_wp2_with (go_at_call 95; refine (l00In_ok _ _ _ _).mono ?_; rintro e w' ⟨rfl, rfl⟩)
  go_ret
  exact ⟨rfl, rfl⟩
theorem l22Kind_eq {n : Int} {v : Bool} (h : inB n 1 4 = v) (w : World) : Calls Tryd.prog 130 #[.int .i64 n] w fun e w' => e = .returned (.bool v) ∧ w = w' := h ▸ l22Kind_ok n w
theorem l21Money_ok (n : Int) (w : World) : Calls Tryd.prog 131 #[.int .i64 n] w fun e w' => e = .returned (.bool (inB n 0 10000000)) ∧ w = w' := by
  go_enter Tryd.func131, Tryd.ntmps131
  go_wp2_with (go_at_call 95; refine (l00In_ok _ _ _ _).mono ?_; rintro e w' ⟨rfl, rfl⟩)
  go_ret
  exact ⟨rfl, rfl⟩
theorem l21Money_eq {n : Int} {v : Bool} (h : inB n 0 10000000 = v) (w : World) : Calls Tryd.prog 131 #[.int .i64 n] w fun e w' => e = .returned (.bool v) ∧ w = w' := h ▸ l21Money_ok n w
theorem isMoney_ok (n : Int) (w : World) : Calls Tryd.prog 157 #[.int .i64 n] w fun e w' => e = .returned (.bool (inB n 0 10000000)) ∧ w = w' := by
  go_enter Tryd.func157, Tryd.ntmps157
  go_wp2_with (go_at_call 88; refine (within_ok _ _ _ _).mono ?_; rintro e w' ⟨rfl, rfl⟩)
  go_ret
  exact ⟨rfl, rfl⟩
theorem isMoney_eq {n : Int} {v : Bool} (h : inB n 0 10000000 = v) (w : World) : Calls Tryd.prog 157 #[.int .i64 n] w fun e w' => e = .returned (.bool v) ∧ w = w' := h ▸ isMoney_ok n w
theorem isPart_ok (n : Int) (w : World) : Calls Tryd.prog 115 #[.int .i64 n] w fun e w' => e = .returned (.bool (inB n 0 1000)) ∧ w = w' := by
  go_enter Tryd.func115, Tryd.ntmps115
  go_wp2_with (go_at_call 88; refine (within_ok _ _ _ _).mono ?_; rintro e w' ⟨rfl, rfl⟩)
  go_ret
  exact ⟨rfl, rfl⟩
theorem isPart_eq {n : Int} {v : Bool} (h : inB n 0 1000 = v) (w : World) : Calls Tryd.prog 115 #[.int .i64 n] w fun e w' => e = .returned (.bool v) ∧ w = w' := h ▸ isPart_ok n w
theorem l04Share_ok (n : Int) (w : World) : Calls Tryd.prog 109 #[.int .i64 n] w fun e w' => e = .returned (.bool (inB n 0 1000)) ∧ w = w' := by
  go_enter Tryd.func109, Tryd.ntmps109
  go_wp2_with (go_at_call 95; refine (l00In_ok _ _ _ _).mono ?_; rintro e w' ⟨rfl, rfl⟩)
  go_ret
  exact ⟨rfl, rfl⟩
theorem l04Share_eq {n : Int} {v : Bool} (h : inB n 0 1000 = v) (w : World) : Calls Tryd.prog 109 #[.int .i64 n] w fun e w' => e = .returned (.bool v) ∧ w = w' := h ▸ l04Share_ok n w
theorem l04Thick_ok (n : Int) (w : World) : Calls Tryd.prog 110 #[.int .i64 n] w fun e w' => e = .returned (.bool (inB n 10 1000)) ∧ w = w' := by
  go_enter Tryd.func110, Tryd.ntmps110
  go_wp2_with (go_at_call 95; refine (l00In_ok _ _ _ _).mono ?_; rintro e w' ⟨rfl, rfl⟩)
  go_ret
  exact ⟨rfl, rfl⟩
theorem l04Thick_eq {n : Int} {v : Bool} (h : inB n 10 1000 = v) (w : World) : Calls Tryd.prog 110 #[.int .i64 n] w fun e w' => e = .returned (.bool v) ∧ w = w' := h ▸ l04Thick_ok n w
theorem isDay_ok (n : Int) (w : World) : Calls Tryd.prog 116 #[.int .i64 n] w fun e w' => e = .returned (.bool (inB n 0 36524)) ∧ w = w' := by
  go_enter Tryd.func116, Tryd.ntmps116
  go_wp2_with (go_at_call 88; refine (within_ok _ _ _ _).mono ?_; rintro e w' ⟨rfl, rfl⟩)
  go_ret
  exact ⟨rfl, rfl⟩
theorem isDay_eq {n : Int} {v : Bool} (h : inB n 0 36524 = v) (w : World) : Calls Tryd.prog 116 #[.int .i64 n] w fun e w' => e = .returned (.bool v) ∧ w = w' := h ▸ isDay_ok n w
theorem l02Day_ok (n : Int) (w : World) : Calls Tryd.prog 111 #[.int .i64 n] w fun e w' => e = .returned (.bool (inB n 0 36524)) ∧ w = w' := by
  go_enter Tryd.func111, Tryd.ntmps111
  go_wp2_with (go_at_call 95; refine (l00In_ok _ _ _ _).mono ?_; rintro e w' ⟨rfl, rfl⟩)
  go_ret
  exact ⟨rfl, rfl⟩
theorem l02Day_eq {n : Int} {v : Bool} (h : inB n 0 36524 = v) (w : World) : Calls Tryd.prog 111 #[.int .i64 n] w fun e w' => e = .returned (.bool v) ∧ w = w' := h ▸ l02Day_ok n w
theorem l01Name_eq {s : ByteArray} {v : Bool} (h : nameB s = v) (w : World) (hs : s.size ≤ maxLen) : Calls Tryd.prog 108 #[.string s] w fun e w' => e = .returned (.bool v) ∧ w = w' := h ▸ l01Name_ok s w hs
theorem l00In_eq {n l h : Int} {v : Bool} (hh : inB n l h = v) (w : World) : Calls Tryd.prog 95 #[.int .i64 n, .int .i64 l, .int .i64 h] w fun e w' => e = .returned (.bool v) ∧ w = w' := hh ▸ l00In_ok n l h w

end Go.Proofs.YtmfadjdpbobfhaaDoor
