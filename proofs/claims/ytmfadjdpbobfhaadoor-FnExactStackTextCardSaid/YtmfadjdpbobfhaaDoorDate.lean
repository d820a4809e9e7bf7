/- Dates, on. -/
import Derived.Test.YtmfadjdpbobfhaaDoorDateI
import Derived.Test.YtmfadjdpbobfhaaDoorDateS
namespace Go.Proofs.YtmfadjdpbobfhaaDoor
open Go.RowKit
set_option linter.unusedVariables false

theorem empty_app (x : ByteArray) : (⟨#[]⟩ : ByteArray) ++ x = x := by
  apply ByteArray.ext
  simp
theorem ret_str {e : Ending} {s t : ByteArray} (h : s = t) (he : e = .returned (.string s)) : e = .returned (.string t) := h ▸ he
theorem padded_ok (n : Int) (w : World) (h0 : 0 ≤ n) (h1 : n < 100) (ht : Tab w) :
    Calls Tryd.prog 119 #[.int .i64 n, .int .i64 2] w fun e w' => e = .returned (.string (twoT n)) ∧ Below w.heap.size w w' := by
  have hs := dec_two h0 h1
  have HT := hid ht
  clear ht
  by_cases h : n < 10
  · rw [if_pos h] at hs
    have HR := hid (show twoT n = ⟨#[48]⟩ ++ dec n by unfold twoT; rw [if_pos h])
    have hs2 : ((dec n).size : Int) = 1 := by omega
    go_enter Tryd.func119, Tryd.ntmps119
    go_wp2_with (first | (go_at_call 59; refine (Decimal_ok n _ (by omega) (by omega) HT.out).mono ?_; rintro e w1 ⟨rfl, hb⟩) | (go_at_call 149; refine (Tryd.strings_Repeat_one ⟨#[48]⟩ _).mono ?_; rintro e w' ⟨rfl, rfl⟩))
    go_ret
    exact ⟨ret_str HR.out.symm rfl, hb⟩
  · rw [if_neg h] at hs
    have HR := hid (show twoT n = dec n by unfold twoT; rw [if_neg h])
    have hs2 : ((dec n).size : Int) = 2 := by omega
    go_enter Tryd.func119, Tryd.ntmps119
    go_wp2_with (first | (go_at_call 59; refine (Decimal_ok n _ (by omega) (by omega) HT.out).mono ?_; rintro e w1 ⟨rfl, hb⟩) | (go_at_call 149; refine (Tryd.strings_Repeat_zero ⟨#[48]⟩ _).mono ?_; rintro e w' ⟨rfl, rfl⟩))
    go_ret
    exact ⟨ret_str ((empty_app (dec n)).trans HR.out.symm) rfl, hb⟩

theorem l02Two_ok (n : Int) (w : World) (h0 : 0 ≤ n) (h1 : n < 100) :
    Calls Tryd.prog 144 #[.int .i64 n] w fun e w' => e = .returned (.string (twoT n)) ∧ Below w.heap.size w w' := by
  have hs := dec_two h0 h1
  have hs2 : (dec n).size ≤ 2 := by rw [hs]; split <;> omega
  have g1 : ¬ 9223372036854775807 < 1 + (dec n).size := by omega
  by_cases h : n < 10
  · have HR := hid (show twoT n = ⟨#[48]⟩ ++ dec n by unfold twoT; rw [if_pos h])
    go_enter Tryd.func144, Tryd.ntmps144
    go_wp2_with (go_at_call 53; refine (l01Dec_ok n _ h0 (by omega)).mono ?_; rintro e w1 ⟨rfl, hb⟩)
    go_ret
    exact ⟨ret_str HR.out.symm rfl, hb⟩
  · have HR := hid (show twoT n = dec n by unfold twoT; rw [if_neg h])
    go_enter Tryd.func144, Tryd.ntmps144
    go_wp2_with (go_at_call 53; refine (l01Dec_ok n _ h0 (by omega)).mono ?_; rintro e w1 ⟨rfl, hb⟩)
    go_ret
    exact ⟨ret_str HR.out.symm rfl, hb⟩

theorem twoT_size {n : Int} (h0 : 0 ≤ n) (h1 : n < 100) : (twoT n).size = 2 := by
  have hs := dec_two h0 h1
  unfold twoT
  split
  · rename_i h
    rw [if_pos h] at hs
    rw [ByteArray.size_append, hs]
    rfl
  · rename_i h
    rw [if_neg h] at hs
    exact hs
theorem dateT_size {d0 : Int} (h0 : 0 ≤ d0) (h1 : d0 ≤ 36524) : (dateT d0).size ≤ 30 := by
  by_cases hx : ∃ y m d, IsDate d0 y m d
  · obtain ⟨y, m, d, h⟩ := hx
    have h' := h
    obtain ⟨a1, a2, a3, a4, a5, a6⟩ := h'
    have hl := lenM_pos (y := y) (m := m)
    have hmb := Mb_in (y := y) a2 a3
    have hyl := Yb_low a1
    have hyb : y ≤ 2100 := by omega
    have := dec_size (n := y) (by omega) (by omega)
    rw [dateT_eq h]
    unfold dateTT
    simp only [ByteArray.size_append, twoT_size (n := m) (by omega) (by omega), twoT_size (n := d + 1) (by omega) (by omega)]
    show _ + 1 + 2 + 1 + 2 ≤ 30
    omega
  · unfold dateT
    rw [dif_neg (by rintro ⟨t, y, m, d, h, _⟩; exact hx ⟨y, m, d, h⟩)]
    decide

set_option maxHeartbeats 1600000 in
set_option maxRecDepth 100000 in
theorem DateText_ok (d0 : Int) (w : World) (h0 : 0 ≤ d0) (h1 : d0 ≤ 36524) (ht : Tab w) :
    Calls Tryd.prog 69 #[.int .i64 d0] w fun e w' => e = .returned (.string (dateT d0)) ∧ Below w.heap.size w w' := by
  have HT := hid ht
  clear ht
  have HB := hid (Below.refl w.heap.size w)
  go_enter Tryd.func69, Tryd.ntmps69
  go_wp2_with fail
  go_at_call 118
  refine (DateOf_ok d0 _ h0 h1).mono ?_
  rintro e w' ⟨⟨y, m, d, hI, hy, rfl⟩, hb⟩; have HT := hid (HT.out.below hb); have HB := hid (below_trans HB.out hb); clear hb; have HE := hid (dateT_eq hI); obtain ⟨b1, b2, b3, b4, b5, b6⟩ := hI; have hl := lenM_pos (y := y) (m := m); have s1 := dec_size (n := y) (by omega) (by omega); have s2 := twoT_size (n := m) (by omega) (by omega); have s3 := twoT_size (n := d + 1) (by omega) (by omega); have g1 : ¬ 9223372036854775807 < (dec y).size + 1 := (by omega); have g2 : ¬ 9223372036854775807 < (dec y).size + 1 + (twoT m).size := (by omega); have g3 : ¬ 9223372036854775807 < (dec y).size + 1 + (twoT m).size + 1 := (by omega); have g4 : ¬ 9223372036854775807 < (dec y).size + 1 + (twoT m).size + 1 + (twoT (d + 1)).size := (by omega)
  clear b6
  go_wp2_with (first
    | (go_at_call 59; refine (Decimal_ok _ _ (by omega) (by omega) HT.out).mono ?_; rintro e w' ⟨rfl, hb⟩; have HT := hid (HT.out.below hb); have HB := hid (below_trans HB.out hb); clear hb)
    | (go_at_call 119; refine (padded_ok _ _ (by omega) (by omega) HT.out).mono ?_; rintro e w' ⟨rfl, hb⟩; have HT := hid (HT.out.below hb); have HB := hid (below_trans HB.out hb); clear hb))
  go_ret
  exact ⟨ret_str HE.out.symm rfl, HB.out⟩

set_option maxHeartbeats 1600000 in
set_option maxRecDepth 100000 in
theorem l02Text_ok (d0 : Int) (w : World) (h0 : 0 ≤ d0) (h1 : d0 ≤ 36524) :
    Calls Tryd.prog 113 #[.int .i64 d0] w fun e w' => e = .returned (.string (dateT d0)) ∧ Below w.heap.size w w' := by
  have HB := hid (Below.refl w.heap.size w)
  go_enter Tryd.func113, Tryd.ntmps113
  go_wp2_with fail
  go_at_call 143
  refine (l02Date_ok d0 _ h0 h1).mono ?_
  rintro e w' ⟨⟨y, m, d, hI, hy, rfl⟩, hb⟩; have HB := hid (below_trans HB.out hb); clear hb; have HE := hid (dateT_eq hI); obtain ⟨b1, b2, b3, b4, b5, b6⟩ := hI; have hl := lenM_pos (y := y) (m := m); have s1 := dec_size (n := y) (by omega) (by omega); have s2 := twoT_size (n := m) (by omega) (by omega); have s3 := twoT_size (n := d + 1) (by omega) (by omega); have g1 : ¬ 9223372036854775807 < (dec y).size + 1 := (by omega); have g2 : ¬ 9223372036854775807 < (dec y).size + 1 + (twoT m).size := (by omega); have g3 : ¬ 9223372036854775807 < (dec y).size + 1 + (twoT m).size + 1 := (by omega); have g4 : ¬ 9223372036854775807 < (dec y).size + 1 + (twoT m).size + 1 + (twoT (d + 1)).size := (by omega)
  clear b6
  go_wp2_with (first
    | (go_at_call 53; refine (l01Dec_ok _ _ (by omega) (by omega)).mono ?_; rintro e w' ⟨rfl, hb⟩; have HB := hid (below_trans HB.out hb); clear hb)
    | (go_at_call 144; refine (l02Two_ok _ _ (by omega) (by omega)).mono ?_; rintro e w' ⟨rfl, hb⟩; have HB := hid (below_trans HB.out hb); clear hb))
  go_ret
  exact ⟨ret_str HE.out.symm rfl, HB.out⟩

end Go.Proofs.YtmfadjdpbobfhaaDoor
