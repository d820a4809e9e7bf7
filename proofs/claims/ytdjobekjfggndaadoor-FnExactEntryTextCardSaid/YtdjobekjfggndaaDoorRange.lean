/- Contracts of the small range tests. -/
import Derived.Test.YtdjobekjfggndaaDoorBasic
namespace Go.Proofs.YtdjobekjfggndaaDoor
open Go.RowKit

theorem isPlace_ok (n : Int) (w : World) : Calls Tryd.prog 83 #[.int .i64 n] w fun e w' => e = .returned (.bool (inB n 0 8000)) ∧ w = w' := by
  go_enter Tryd.func83, Tryd.ntmps83
  go_wp2_with (go_at_call 84; refine (within_ok _ _ _ _).mono ?_; rintro e w' ⟨rfl, rfl⟩)
  go_ret
  exact ⟨rfl, rfl⟩
theorem isPlace_eq {n : Int} {v : Bool} (h : inB n 0 8000 = v) (w : World) : Calls Tryd.prog 83 #[.int .i64 n] w fun e w' => e = .returned (.bool v) ∧ w = w' := h ▸ isPlace_ok n w
theorem l11At_ok (n : Int) (w : World) : Calls Tryd.prog 79 #[.int .i64 n] w fun e w' => e = .returned (.bool (inB n 0 8000)) ∧ w = w' := by
  go_enter Tryd.func79, Tryd.ntmps79
  go_wp2_with (go_at_call 80; refine (l00In_ok _ _ _ _).mono ?_; rintro e w' ⟨rfl, rfl⟩)
  go_ret
  exact ⟨rfl, rfl⟩
theorem l11At_eq {n : Int} {v : Bool} (h : inB n 0 8000 = v) (w : World) : Calls Tryd.prog 79 #[.int .i64 n] w fun e w' => e = .returned (.bool v) ∧ w = w' := h ▸ l11At_ok n w
theorem isYear_ok (n : Int) (w : World) : Calls Tryd.prog 87 #[.int .i64 n] w fun e w' => e = .returned (.bool (inB n 0 2100)) ∧ w = w' := by
  go_enter Tryd.func87, Tryd.ntmps87
  go_wp2_with (go_at_call 84; refine (within_ok _ _ _ _).mono ?_; rintro e w' ⟨rfl, rfl⟩)
  go_ret
  exact ⟨rfl, rfl⟩
theorem isYear_eq {n : Int} {v : Bool} (h : inB n 0 2100 = v) (w : World) : Calls Tryd.prog 87 #[.int .i64 n] w fun e w' => e = .returned (.bool v) ∧ w = w' := h ▸ isYear_ok n w
theorem l19Year_ok (n : Int) (w : World) : Calls Tryd.prog 86 #[.int .i64 n] w fun e w' => e = .returned (.bool (inB n 0 2100)) ∧ w = w' := by
  go_enter Tryd.func86, Tryd.ntmps86
  go_wp2_with (go_at_call 80; refine (l00In_ok _ _ _ _).mono ?_; rintro e w' ⟨rfl, rfl⟩)
  go_ret
  exact ⟨rfl, rfl⟩
theorem l19Year_eq {n : Int} {v : Bool} (h : inB n 0 2100 = v) (w : World) : Calls Tryd.prog 86 #[.int .i64 n] w fun e w' => e = .returned (.bool v) ∧ w = w' := h ▸ l19Year_ok n w
theorem isRentDay_ok (n : Int) (w : World) : Calls Tryd.prog 89 #[.int .i64 n] w fun e w' => e = .returned (.bool (inB n 0 100000)) ∧ w = w' := by
  go_enter Tryd.func89, Tryd.ntmps89
  go_wp2_with (go_at_call 84; refine (within_ok _ _ _ _).mono ?_; rintro e w' ⟨rfl, rfl⟩)
  go_ret
  exact ⟨rfl, rfl⟩
theorem isRentDay_eq {n : Int} {v : Bool} (h : inB n 0 100000 = v) (w : World) : Calls Tryd.prog 89 #[.int .i64 n] w fun e w' => e = .returned (.bool v) ∧ w = w' := h ▸ isRentDay_ok n w
theorem l21Day_ok (n : Int) (w : World) : Calls Tryd.prog 88 #[.int .i64 n] w fun e w' => e = .returned (.bool (inB n 0 100000)) ∧ w = w' := by
  go_enter Tryd.func88, Tryd.ntmps88
  go_wp2_with (go_at_call 80; refine (l00In_ok _ _ _ _).mono ?_; rintro e w' ⟨rfl, rfl⟩)
  go_ret
  exact ⟨rfl, rfl⟩
theorem l21Day_eq {n : Int} {v : Bool} (h : inB n 0 100000 = v) (w : World) : Calls Tryd.prog 88 #[.int .i64 n] w fun e w' => e = .returned (.bool v) ∧ w = w' := h ▸ l21Day_ok n w
theorem l22Kind_ok (n : Int) (w : World) : Calls Tryd.prog 90 #[.int .i64 n] w fun e w' => e = .returned (.bool (inB n 1 4)) ∧ w = w' := by
  go_enter Tryd.func90, Tryd.ntmps90
  go_wp2_with (go_at_call 80; refine (l00In_ok _ _ _ _).mono ?_; rintro e w' ⟨rfl, rfl⟩)
  go_ret
  exact ⟨rfl, rfl⟩
theorem l22Kind_eq {n : Int} {v : Bool} (h : inB n 1 4 = v) (w : World) : Calls Tryd.prog 90 #[.int .i64 n] w fun e w' => e = .returned (.bool v) ∧ w = w' := h ▸ l22Kind_ok n w
theorem l21Money_ok (n : Int) (w : World) : Calls Tryd.prog 91 #[.int .i64 n] w fun e w' => e = .returned (.bool (inB n 0 10000000)) ∧ w = w' := by
  go_enter Tryd.func91, Tryd.ntmps91
  go_wp2_with (go_at_call 80; refine (l00In_ok _ _ _ _).mono ?_; rintro e w' ⟨rfl, rfl⟩)
  go_ret
  exact ⟨rfl, rfl⟩
theorem l21Money_eq {n : Int} {v : Bool} (h : inB n 0 10000000 = v) (w : World) : Calls Tryd.prog 91 #[.int .i64 n] w fun e w' => e = .returned (.bool v) ∧ w = w' := h ▸ l21Money_ok n w
theorem isMoney_ok (n : Int) (w : World) : Calls Tryd.prog 93 #[.int .i64 n] w fun e w' => e = .returned (.bool (inB n 0 10000000)) ∧ w = w' := by
  go_enter Tryd.func93, Tryd.ntmps93
  go_wp2_with (go_at_call 84; refine (within_ok _ _ _ _).mono ?_; rintro e w' ⟨rfl, rfl⟩)
  go_ret
  exact ⟨rfl, rfl⟩
theorem isMoney_eq {n : Int} {v : Bool} (h : inB n 0 10000000 = v) (w : World) : Calls Tryd.prog 93 #[.int .i64 n] w fun e w' => e = .returned (.bool v) ∧ w = w' := h ▸ isMoney_ok n w
theorem l06Size_ok (n : Int) (w : World) : Calls Tryd.prog 95 #[.int .i64 n] w fun e w' => e = .returned (.bool (inB n 1 10000)) ∧ w = w' := by
  go_enter Tryd.func95, Tryd.ntmps95
  go_wp2_with (go_at_call 80; refine (l00In_ok _ _ _ _).mono ?_; rintro e w' ⟨rfl, rfl⟩)
  go_ret
  exact ⟨rfl, rfl⟩
theorem l06Size_eq {n : Int} {v : Bool} (h : inB n 1 10000 = v) (w : World) : Calls Tryd.prog 95 #[.int .i64 n] w fun e w' => e = .returned (.bool v) ∧ w = w' := h ▸ l06Size_ok n w
theorem l16Tone_ok (n : Int) (w : World) : Calls Tryd.prog 98 #[.int .i64 n] w fun e w' => e = .returned (.bool (inB n 1000 100000)) ∧ w = w' := by
  go_enter Tryd.func98, Tryd.ntmps98
  go_wp2_with (go_at_call 80; refine (l00In_ok _ _ _ _).mono ?_; rintro e w' ⟨rfl, rfl⟩)
  go_ret
  exact ⟨rfl, rfl⟩
theorem l16Tone_eq {n : Int} {v : Bool} (h : inB n 1000 100000 = v) (w : World) : Calls Tryd.prog 98 #[.int .i64 n] w fun e w' => e = .returned (.bool v) ∧ w = w' := h ▸ l16Tone_ok n w
theorem isTone_ok (n : Int) (w : World) : Calls Tryd.prog 99 #[.int .i64 n] w fun e w' => e = .returned (.bool (inB n 1000 100000)) ∧ w = w' := by
  go_enter Tryd.func99, Tryd.ntmps99
  go_wp2_with (go_at_call 84; refine (within_ok _ _ _ _).mono ?_; rintro e w' ⟨rfl, rfl⟩)
  go_ret
  exact ⟨rfl, rfl⟩
theorem isTone_eq {n : Int} {v : Bool} (h : inB n 1000 100000 = v) (w : World) : Calls Tryd.prog 99 #[.int .i64 n] w fun e w' => e = .returned (.bool v) ∧ w = w' := h ▸ isTone_ok n w
theorem l12Hole_ok (n : Int) (w : World) : Calls Tryd.prog 100 #[.int .i64 n] w fun e w' => e = .returned (.bool (inB n 20 200)) ∧ w = w' := by
  go_enter Tryd.func100, Tryd.ntmps100
  go_wp2_with (go_at_call 80; refine (l00In_ok _ _ _ _).mono ?_; rintro e w' ⟨rfl, rfl⟩)
  go_ret
  exact ⟨rfl, rfl⟩
theorem l12Hole_eq {n : Int} {v : Bool} (h : inB n 20 200 = v) (w : World) : Calls Tryd.prog 100 #[.int .i64 n] w fun e w' => e = .returned (.bool v) ∧ w = w' := h ▸ l12Hole_ok n w
theorem isHole_ok (n : Int) (w : World) : Calls Tryd.prog 101 #[.int .i64 n] w fun e w' => e = .returned (.bool (inB n 20 200)) ∧ w = w' := by
  go_enter Tryd.func101, Tryd.ntmps101
  go_wp2_with (go_at_call 84; refine (within_ok _ _ _ _).mono ?_; rintro e w' ⟨rfl, rfl⟩)
  go_ret
  exact ⟨rfl, rfl⟩
theorem isHole_eq {n : Int} {v : Bool} (h : inB n 20 200 = v) (w : World) : Calls Tryd.prog 101 #[.int .i64 n] w fun e w' => e = .returned (.bool v) ∧ w = w' := h ▸ isHole_ok n w
theorem l24Margin_ok (n : Int) (w : World) : Calls Tryd.prog 102 #[.int .i64 n] w fun e w' => e = .returned (.bool (inB n 0 5000)) ∧ w = w' := by
  go_enter Tryd.func102, Tryd.ntmps102
  go_wp2_with (go_at_call 80; refine (l00In_ok _ _ _ _).mono ?_; rintro e w' ⟨rfl, rfl⟩)
  go_ret
  exact ⟨rfl, rfl⟩
theorem l24Margin_eq {n : Int} {v : Bool} (h : inB n 0 5000 = v) (w : World) : Calls Tryd.prog 102 #[.int .i64 n] w fun e w' => e = .returned (.bool v) ∧ w = w' := h ▸ l24Margin_ok n w
theorem l26Count_ok (n : Int) (w : World) : Calls Tryd.prog 103 #[.int .i64 n] w fun e w' => e = .returned (.bool (inB n 0 100000)) ∧ w = w' := by
  go_enter Tryd.func103, Tryd.ntmps103
  go_wp2_with (go_at_call 80; refine (l00In_ok _ _ _ _).mono ?_; rintro e w' ⟨rfl, rfl⟩)
  go_ret
  exact ⟨rfl, rfl⟩
theorem l26Count_eq {n : Int} {v : Bool} (h : inB n 0 100000 = v) (w : World) : Calls Tryd.prog 103 #[.int .i64 n] w fun e w' => e = .returned (.bool v) ∧ w = w' := h ▸ l26Count_ok n w
theorem isPieces_ok (n : Int) (w : World) : Calls Tryd.prog 104 #[.int .i64 n] w fun e w' => e = .returned (.bool (inB n 0 100000)) ∧ w = w' := by
  go_enter Tryd.func104, Tryd.ntmps104
  go_wp2_with (go_at_call 84; refine (within_ok _ _ _ _).mono ?_; rintro e w' ⟨rfl, rfl⟩)
  go_ret
  exact ⟨rfl, rfl⟩
theorem isPieces_eq {n : Int} {v : Bool} (h : inB n 0 100000 = v) (w : World) : Calls Tryd.prog 104 #[.int .i64 n] w fun e w' => e = .returned (.bool v) ∧ w = w' := h ▸ isPieces_ok n w
theorem l01Name_eq {s : ByteArray} {v : Bool} (h : nameB s = v) (w : World) (hs : s.size ≤ maxLen) : Calls Tryd.prog 78 #[.string s] w fun e w' => e = .returned (.bool v) ∧ w = w' := h ▸ l01Name_ok s w hs
theorem l00In_eq {n l h : Int} {v : Bool} (hh : inB n l h = v) (w : World) : Calls Tryd.prog 80 #[.int .i64 n, .int .i64 l, .int .i64 h] w fun e w' => e = .returned (.bool v) ∧ w = w' := hh ▸ l00In_ok n l h w

end Go.Proofs.YtdjobekjfggndaaDoor
