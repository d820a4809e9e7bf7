/- Contracts of the small range tests. -/
import Derived.Test.YtdbjbkdcmhekfaaBasic
namespace Go.Proofs.Ytdbjbkdcmhekfaa
open Go.RowKit

theorem l06Size_ok (n : Int) (w : World) : Calls Try.prog 194 #[.int .i64 n] w fun e w' => e = .returned (.bool (inB n 1 10000)) ∧ w = w' := by
  go_enter Try.func194, Try.ntmps194
  go_wp2_with (go_at_call 69; refine (l00In_ok _ _ _ _).mono ?_; rintro e w' ⟨rfl, rfl⟩)
  go_ret
  exact ⟨rfl, rfl⟩
theorem l06Size_eq {n : Int} {v : Bool} (h : inB n 1 10000 = v) (w : World) : Calls Try.prog 194 #[.int .i64 n] w fun e w' => e = .returned (.bool v) ∧ w = w' := h ▸ l06Size_ok n w
theorem isSpan_ok (n : Int) (w : World) : Calls Try.prog 180 #[.int .i64 n] w fun e w' => e = .returned (.bool (inB n 1 40)) ∧ w = w' := by
  go_enter Try.func180, Try.ntmps180
  go_wp2_with (go_at_call 73; refine (within_ok _ _ _ _).mono ?_; rintro e w' ⟨rfl, rfl⟩)
  go_ret
  exact ⟨rfl, rfl⟩
theorem isSpan_eq {n : Int} {v : Bool} (h : inB n 1 40 = v) (w : World) : Calls Try.prog 180 #[.int .i64 n] w fun e w' => e = .returned (.bool v) ∧ w = w' := h ▸ isSpan_ok n w
theorem isDate_ok (n : Int) (w : World) : Calls Try.prog 181 #[.int .i64 n] w fun e w' => e = .returned (.bool (inB n 0 39)) ∧ w = w' := by
  go_enter Try.func181, Try.ntmps181
  go_wp2_with (go_at_call 73; refine (within_ok _ _ _ _).mono ?_; rintro e w' ⟨rfl, rfl⟩)
  go_ret
  exact ⟨rfl, rfl⟩
theorem isDate_eq {n : Int} {v : Bool} (h : inB n 0 39 = v) (w : World) : Calls Try.prog 181 #[.int .i64 n] w fun e w' => e = .returned (.bool v) ∧ w = w' := h ▸ isDate_ok n w
theorem l18Day_ok (n : Int) (w : World) : Calls Try.prog 177 #[.int .i64 n] w fun e w' => e = .returned (.bool (inB n 0 39)) ∧ w = w' := by
  go_enter Try.func177, Try.ntmps177
  go_wp2_with (go_at_call 69; refine (l00In_ok _ _ _ _).mono ?_; rintro e w' ⟨rfl, rfl⟩)
  go_ret
  exact ⟨rfl, rfl⟩
theorem l18Day_eq {n : Int} {v : Bool} (h : inB n 0 39 = v) (w : World) : Calls Try.prog 177 #[.int .i64 n] w fun e w' => e = .returned (.bool v) ∧ w = w' := h ▸ l18Day_ok n w
theorem l18Days_ok (n : Int) (w : World) : Calls Try.prog 176 #[.int .i64 n] w fun e w' => e = .returned (.bool (inB n 1 40)) ∧ w = w' := by
  go_enter Try.func176, Try.ntmps176
  go_wp2_with (go_at_call 69; refine (l00In_ok _ _ _ _).mono ?_; rintro e w' ⟨rfl, rfl⟩)
  go_ret
  exact ⟨rfl, rfl⟩
theorem l18Days_eq {n : Int} {v : Bool} (h : inB n 1 40 = v) (w : World) : Calls Try.prog 176 #[.int .i64 n] w fun e w' => e = .returned (.bool v) ∧ w = w' := h ▸ l18Days_ok n w
theorem isGrams_ok (n : Int) (w : World) : Calls Try.prog 160 #[.int .i64 n] w fun e w' => e = .returned (.bool (inB n 1 10000)) ∧ w = w' := by
  go_enter Try.func160, Try.ntmps160
  go_wp2_with (go_at_call 73; refine (within_ok _ _ _ _).mono ?_; rintro e w' ⟨rfl, rfl⟩)
  go_ret
  exact ⟨rfl, rfl⟩
theorem isGrams_eq {n : Int} {v : Bool} (h : inB n 1 10000 = v) (w : World) : Calls Try.prog 160 #[.int .i64 n] w fun e w' => e = .returned (.bool v) ∧ w = w' := h ▸ isGrams_ok n w
theorem l14Grams_ok (n : Int) (w : World) : Calls Try.prog 157 #[.int .i64 n] w fun e w' => e = .returned (.bool (inB n 1 10000)) ∧ w = w' := by
  go_enter Try.func157, Try.ntmps157
  go_wp2_with (go_at_call 69; refine (l00In_ok _ _ _ _).mono ?_; rintro e w' ⟨rfl, rfl⟩)
  go_ret
  exact ⟨rfl, rfl⟩
theorem l14Grams_eq {n : Int} {v : Bool} (h : inB n 1 10000 = v) (w : World) : Calls Try.prog 157 #[.int .i64 n] w fun e w' => e = .returned (.bool v) ∧ w = w' := h ▸ l14Grams_ok n w
theorem isHeat_ok (n : Int) (w : World) : Calls Try.prog 188 #[.int .i64 n] w fun e w' => e = .returned (.bool (inB n 20 95)) ∧ w = w' := by
  go_enter Try.func188, Try.ntmps188
  go_wp2_with (go_at_call 73; refine (within_ok _ _ _ _).mono ?_; rintro e w' ⟨rfl, rfl⟩)
  go_ret
  exact ⟨rfl, rfl⟩
theorem isHeat_eq {n : Int} {v : Bool} (h : inB n 20 95 = v) (w : World) : Calls Try.prog 188 #[.int .i64 n] w fun e w' => e = .returned (.bool v) ∧ w = w' := h ▸ isHeat_ok n w
theorem l14Heat_ok (n : Int) (w : World) : Calls Try.prog 186 #[.int .i64 n] w fun e w' => e = .returned (.bool (inB n 20 95)) ∧ w = w' := by
  go_enter Try.func186, Try.ntmps186
  go_wp2_with (go_at_call 69; refine (l00In_ok _ _ _ _).mono ?_; rintro e w' ⟨rfl, rfl⟩)
  go_ret
  exact ⟨rfl, rfl⟩
theorem l14Heat_eq {n : Int} {v : Bool} (h : inB n 20 95 = v) (w : World) : Calls Try.prog 186 #[.int .i64 n] w fun e w' => e = .returned (.bool v) ∧ w = w' := h ▸ l14Heat_ok n w
theorem l20Year_ok (n : Int) (w : World) : Calls Try.prog 169 #[.int .i64 n] w fun e w' => e = .returned (.bool (inB n 1500 2100)) ∧ w = w' := by
  go_enter Try.func169, Try.ntmps169
  go_wp2_with (go_at_call 69; refine (l00In_ok _ _ _ _).mono ?_; rintro e w' ⟨rfl, rfl⟩)
  go_ret
  exact ⟨rfl, rfl⟩
theorem l20Year_eq {n : Int} {v : Bool} (h : inB n 1500 2100 = v) (w : World) : Calls Try.prog 169 #[.int .i64 n] w fun e w' => e = .returned (.bool v) ∧ w = w' := h ▸ l20Year_ok n w
theorem l01Name_eq {s : ByteArray} {v : Bool} (h : nameB s = v) (w : World) (hs : s.size ≤ maxLen) : Calls Try.prog 168 #[.string s] w fun e w' => e = .returned (.bool v) ∧ w = w' := h ▸ l01Name_ok s w hs
theorem l00In_eq {n l h : Int} {v : Bool} (hh : inB n l h = v) (w : World) : Calls Try.prog 69 #[.int .i64 n, .int .i64 l, .int .i64 h] w fun e w' => e = .returned (.bool v) ∧ w = w' := hh ▸ l00In_ok n l h w

end Go.Proofs.Ytdbjbkdcmhekfaa
