/- DeedText and its reference. -/
import Derived.Test.YtdjobekjfggndaaDoorDec
import Derived.Test.YtdjobekjfggndaaDoorList
import Derived.Test.YtdjobekjfggndaaDoorKeep
import Derived.Test.YtdjobekjfggndaaDoorRange
namespace Go.Proofs.YtdjobekjfggndaaDoor
open Go.RowKit
set_option linter.unusedVariables false

def deedB (xFrom : ByteArray) (xTo : ByteArray) (xYear : Int) (xDoubt : Int) : Bool := nameB xFrom && (nameB xTo && (!(xFrom.toList == xTo.toList) && (inB xYear 0 2100 && (inB xDoubt 0 1000))))

set_option maxRecDepth 100000 in
theorem deedValid_ok (xFrom : ByteArray) (xTo : ByteArray) (xYear : Int) (xDoubt : Int) (w : World) (hsFrom : xFrom.size ≤ maxLen) (hsTo : xTo.size ≤ maxLen) :
    Calls Tryd.prog 54 #[.agg #[.string xFrom, .string xTo, .int .i64 xYear, .int .i64 xDoubt]] w fun e w' => e = .returned (.bool (deedB xFrom xTo xYear xDoubt)) ∧ Below w.heap.size w w' := by
  go_enter Tryd.func54, Tryd.ntmps54
  go_wp2_with (first | (go_at_call 82; refine (IsName_ok _ _ (by assumption)).mono ?_; rintro e w' ⟨rfl, rfl⟩) | (go_at_call 87; refine (isYear_ok _ _).mono ?_; rintro e w' ⟨rfl, rfl⟩) | (go_at_call 84; refine (within_ok _ _ _ _).mono ?_; rintro e w' ⟨rfl, rfl⟩))
  all_goals (go_ret; exact ⟨ret_bool (by simp [deedB, *]), below_alloc _ _⟩)

set_option maxHeartbeats 800000 in
set_option maxRecDepth 100000 in
theorem deedOne_ok (xFrom : ByteArray) (xTo : ByteArray) (xYear : Int) (xDoubt : Int) (b o : Nat) (w : World) (hsFrom : xFrom.size ≤ maxLen) (hsTo : xTo.size ≤ maxLen) (k0 : w.cell? ⟨b, o, none⟩ = some (.string xFrom)) (k1 : w.cell? ⟨b, o + 1, none⟩ = some (.string xTo)) (k2 : w.cell? ⟨b, o + 2, none⟩ = some (.int .i64 xYear)) (k3 : w.cell? ⟨b, o + 3, none⟩ = some (.int .i64 xDoubt)) :
    Calls Tryd.prog 52 #[.pointer (some ⟨b, o, none⟩)] w fun e w' => e = .returned (.bool (deedB xFrom xTo xYear xDoubt)) ∧ Below w.heap.size w w' := by
  cases h0 : nameB xFrom
  · have HB := hid (show deedB xFrom xTo xYear xDoubt = false by simp [deedB, h0])
    go_enter Tryd.func52, Tryd.ntmps52
    go_wp2_with fail
    go_quiet (first | (go_at_call 78; with_reducible exact quiet_left (l01Name_eq h0 _ (by assumption))))
    go_wp2_with fail
    go_ret
    exact ⟨ret_bool (HB.out.symm), below_drewN _ _⟩
  cases h1 : nameB xTo
  · have HB := hid (show deedB xFrom xTo xYear xDoubt = false by simp [deedB, h0, h1])
    go_enter Tryd.func52, Tryd.ntmps52
    go_wp2_with fail
    go_quiet (first | (go_at_call 78; with_reducible exact quiet_left (l01Name_eq h0 _ (by assumption))) | (go_at_call 78; with_reducible exact quiet_left (l01Name_eq h1 _ (by assumption))))
    go_wp2_with fail
    go_ret
    exact ⟨ret_bool (HB.out.symm), below_drewN _ _⟩
  cases h2 : (xFrom.toList == xTo.toList)
  rotate_left
  · have HB := hid (show deedB xFrom xTo xYear xDoubt = false by simp [deedB, h0, h1, h2])
    go_enter Tryd.func52, Tryd.ntmps52
    go_wp2_with fail
    go_quiet (first | (go_at_call 78; with_reducible exact quiet_left (l01Name_eq h0 _ (by assumption))) | (go_at_call 78; with_reducible exact quiet_left (l01Name_eq h1 _ (by assumption))))
    go_wp2_with fail
    go_ret
    exact ⟨ret_bool (HB.out.symm), below_drewN _ _⟩
  cases h3 : inB xYear 0 2100
  · have HB := hid (show deedB xFrom xTo xYear xDoubt = false by simp [deedB, h0, h1, h2, h3])
    go_enter Tryd.func52, Tryd.ntmps52
    go_wp2_with fail
    go_quiet (first | (go_at_call 78; with_reducible exact quiet_left (l01Name_eq h0 _ (by assumption))) | (go_at_call 78; with_reducible exact quiet_left (l01Name_eq h1 _ (by assumption))) | (go_at_call 86; with_reducible exact quiet_left (l19Year_eq h3 _)))
    go_wp2_with fail
    go_ret
    exact ⟨ret_bool (HB.out.symm), below_drewN _ _⟩
  cases h4 : inB xDoubt 0 1000
  · have HB := hid (show deedB xFrom xTo xYear xDoubt = false by simp [deedB, h0, h1, h2, h3, h4])
    go_enter Tryd.func52, Tryd.ntmps52
    go_wp2_with fail
    go_quiet (first | (go_at_call 78; with_reducible exact quiet_left (l01Name_eq h0 _ (by assumption))) | (go_at_call 78; with_reducible exact quiet_left (l01Name_eq h1 _ (by assumption))) | (go_at_call 86; with_reducible exact quiet_left (l19Year_eq h3 _)) | (go_at_call 80; with_reducible exact quiet_left (l00In_eq h4 _)))
    go_wp2_with fail
    go_ret
    exact ⟨ret_bool (HB.out.symm), below_drewN _ _⟩
  have HB := hid (show deedB xFrom xTo xYear xDoubt = true by simp [deedB, h0, h1, h2, h3, h4])
  go_enter Tryd.func52, Tryd.ntmps52
  go_wp2_with fail
  go_quiet (first | (go_at_call 78; with_reducible exact quiet_left (l01Name_eq h0 _ (by assumption))) | (go_at_call 78; with_reducible exact quiet_left (l01Name_eq h1 _ (by assumption))) | (go_at_call 86; with_reducible exact quiet_left (l19Year_eq h3 _)) | (go_at_call 80; with_reducible exact quiet_left (l00In_eq h4 _)))
  go_wp2_with fail
  go_ret
  exact ⟨ret_bool (HB.out.symm), below_drewN _ _⟩

theorem deedB_bd {xFrom xTo : ByteArray} {xYear xDoubt : Int} (h : deedB xFrom xTo xYear xDoubt = true) : xFrom.size ≤ 10 ∧ xTo.size ≤ 10 ∧ 0 ≤ xYear ∧ xYear ≤ 10000000 ∧ 0 ≤ xDoubt ∧ xDoubt ≤ 10000000 := by
  simp only [deedB, Bool.and_eq_true, inB_iff, Bool.not_eq_true'] at h
  obtain ⟨a0, a1, a2, a3, a4⟩ := h
  refine ⟨name_size a0, name_size a1, by omega, by omega, by omega, by omega⟩

/-- the text -/
def deedT (xFrom : ByteArray) (xTo : ByteArray) (xYear : Int) (xDoubt : Int) : ByteArray := dec xYear ++ ⟨#[32]⟩ ++ xFrom ++ ⟨#[45]⟩ ++ xTo ++ ⟨#[32]⟩ ++ dec xDoubt

set_option maxHeartbeats 800000 in
set_option maxRecDepth 100000 in
theorem DeedText_ok (xFrom : ByteArray) (xTo : ByteArray) (xYear : Int) (xDoubt : Int) (w : World) (hsFrom : xFrom.size ≤ maxLen) (hsTo : xTo.size ≤ maxLen) (ht : Tab w) :
    Calls Tryd.prog 19 #[.agg #[.string xFrom, .string xTo, .int .i64 xYear, .int .i64 xDoubt]] w fun e w' => e = .returned (.string (orNo (deedB xFrom xTo xYear xDoubt) (deedT xFrom xTo xYear xDoubt))) ∧ Below w.heap.size w w' := by
  cases hv : deedB xFrom xTo xYear xDoubt
  · go_enter Tryd.func19, Tryd.ntmps19
    go_wp2_with (go_at_call 54; refine (deedValid_ok _ _ _ _ _ hsFrom hsTo).mono ?_; rintro e w1 ⟨rfl, hb⟩)
    go_ret
    exact ⟨rfl, below_chain hb (Below.refl _ _)⟩
  · obtain ⟨zFrom, zTo, lYear, uYear, lDoubt, uDoubt⟩ := deedB_bd hv
    have HC0 := hid (HasC.new w [.string xFrom, .string xTo, .int .i64 xYear, .int .i64 xDoubt] 33)
    have HT := hid (ht.alloc (.cells [.string xFrom, .string xTo, .int .i64 xYear, .int .i64 xDoubt].toArray 33))
    clear ht
    go_enter Tryd.func19, Tryd.ntmps19
    go_wp2_with (go_at_call 54; refine (deedValid_ok _ _ _ _ _ hsFrom hsTo).mono ?_; rintro e w1 ⟨rfl, hb⟩)
    have HC := hid (HC0.out.below hb)
    have k0 : w1.cell? ⟨w.heap.size, 0, none⟩ = some (.string xFrom) := HC.out.2 0 _ rfl
    have k1 : w1.cell? ⟨w.heap.size, 1, none⟩ = some (.string xTo) := HC.out.2 1 _ rfl
    have k2 : w1.cell? ⟨w.heap.size, 2, none⟩ = some (.int .i64 xYear) := HC.out.2 2 _ rfl
    have k3 : w1.cell? ⟨w.heap.size, 3, none⟩ = some (.int .i64 xDoubt) := HC.out.2 3 _ rfl
    have hlt : w.heap.size < w1.heap.size := HC.out.1
    have ht1 : Tab w1 := HT.out.below hb
    clear HC HC0 HT hv
    have sdYear : (dec xYear).size ≤ 20 := dec_size (by omega) (by omega)
    have sdDoubt : (dec xDoubt).size ≤ 20 := dec_size (by omega) (by omega)
    have g1 : ¬ 9223372036854775807 < (dec xYear).size + 1 := by omega
    have g2 : ¬ 9223372036854775807 < (dec xYear).size + 1 + xFrom.size := by omega
    have g3 : ¬ 9223372036854775807 < (dec xYear).size + 1 + xFrom.size + 1 := by omega
    have g4 : ¬ 9223372036854775807 < (dec xYear).size + 1 + xFrom.size + 1 + xTo.size := by omega
    have g5 : ¬ 9223372036854775807 < (dec xYear).size + 1 + xFrom.size + 1 + xTo.size + 1 := by omega
    have g6 : ¬ 9223372036854775807 < (dec xYear).size + 1 + xFrom.size + 1 + xTo.size + 1 + (dec xDoubt).size := by omega
    go_region_held3 (fun w' => (Tab w' ∧ Below w1.heap.size w1 w') ∧ w'.cell? ⟨w.heap.size, 0, none⟩ = some (.string xFrom) ∧ w'.cell? ⟨w.heap.size, 1, none⟩ = some (.string xTo) ∧ w'.cell? ⟨w.heap.size, 2, none⟩ = some (.int .i64 xYear) ∧ w'.cell? ⟨w.heap.size, 3, none⟩ = some (.int .i64 xDoubt))
      (first | exact ⟨⟨ht1.drew, (Below.refl _ _).drew⟩, k0, k1, k2, k3⟩ | exact keepT4 hlt ‹_ ∧ _› ‹Below _ _ _›)
      (first | (go_at_call 51; refine (Decimal_ok _ _ (by omega) (by omega) (And.left (And.left ‹(Tab _ ∧ _) ∧ _›))).mono ?_; rintro e w2 ⟨rfl, hb2⟩))
    go_wp2_with fail
    go_ret
    obtain ⟨⟨_, hB⟩, _⟩ := ‹(Tab _ ∧ _) ∧ _›
    exact ⟨by simp [deedT, orNo], below_chain hb hB⟩

set_option maxHeartbeats 800000 in
set_option maxRecDepth 100000 in
theorem deedSText_ok (xFrom : ByteArray) (xTo : ByteArray) (xYear : Int) (xDoubt : Int) (b o : Nat) (w : World) (hv : deedB xFrom xTo xYear xDoubt = true) (hlt : b < w.heap.size) (k0 : w.cell? ⟨b, o, none⟩ = some (.string xFrom)) (k1 : w.cell? ⟨b, o + 1, none⟩ = some (.string xTo)) (k2 : w.cell? ⟨b, o + 2, none⟩ = some (.int .i64 xYear)) (k3 : w.cell? ⟨b, o + 3, none⟩ = some (.int .i64 xDoubt)) :
    Calls Tryd.prog 53 #[.pointer (some ⟨b, o, none⟩)] w fun e w' => e = .returned (.string (deedT xFrom xTo xYear xDoubt)) ∧ Below w.heap.size w w' := by
  · obtain ⟨zFrom, zTo, lYear, uYear, lDoubt, uDoubt⟩ := deedB_bd hv
    have sdYear : (dec xYear).size ≤ 20 := dec_size (by omega) (by omega)
    have sdDoubt : (dec xDoubt).size ≤ 20 := dec_size (by omega) (by omega)
    have g1 : ¬ 9223372036854775807 < (dec xYear).size + 1 := by omega
    have g2 : ¬ 9223372036854775807 < (dec xYear).size + 1 + xFrom.size := by omega
    have g3 : ¬ 9223372036854775807 < (dec xYear).size + 1 + xFrom.size + 1 := by omega
    have g4 : ¬ 9223372036854775807 < (dec xYear).size + 1 + xFrom.size + 1 + xTo.size := by omega
    have g5 : ¬ 9223372036854775807 < (dec xYear).size + 1 + xFrom.size + 1 + xTo.size + 1 := by omega
    have g6 : ¬ 9223372036854775807 < (dec xYear).size + 1 + xFrom.size + 1 + xTo.size + 1 + (dec xDoubt).size := by omega
    clear hv
    go_enter Tryd.func53, Tryd.ntmps53
    go_wp2_with fail
    go_region_held3 (fun w' => (True ∧ Below w.heap.size w w') ∧ w'.cell? ⟨b, o, none⟩ = some (.string xFrom) ∧ w'.cell? ⟨b, o + 1, none⟩ = some (.string xTo) ∧ w'.cell? ⟨b, o + 2, none⟩ = some (.int .i64 xYear) ∧ w'.cell? ⟨b, o + 3, none⟩ = some (.int .i64 xDoubt))
      (first | exact ⟨⟨trivial, (Below.refl _ _).drew⟩, k0, k1, k2, k3⟩ | exact keepN4 hlt ‹_ ∧ _› ‹Below _ _ _›)
      (first | (go_at_call 81; refine (l01Dec_ok _ _ (by omega) (by omega)).mono ?_; rintro e w2 ⟨rfl, hb2⟩))
    go_wp2_with fail
    go_ret
    obtain ⟨⟨_, hB⟩, _⟩ := ‹(_ ∧ Below _ _ _) ∧ _›
    exact ⟨by simp [deedT], hB⟩

theorem specDeedText_ok (xFrom : ByteArray) (xTo : ByteArray) (xYear : Int) (xDoubt : Int) (w : World) (hsFrom : xFrom.size ≤ maxLen) (hsTo : xTo.size ≤ maxLen) :
    Calls Tryd.prog 17 #[.agg #[.string xFrom, .string xTo, .int .i64 xYear, .int .i64 xDoubt]] w fun e w' => e = .returned (.string (orNo (deedB xFrom xTo xYear xDoubt) (deedT xFrom xTo xYear xDoubt))) ∧ Below w.heap.size w w' := by
  have HC0 := hid (HasC.new w [.string xFrom, .string xTo, .int .i64 xYear, .int .i64 xDoubt] 33)
  cases hv : deedB xFrom xTo xYear xDoubt
  · clear HC0
    go_enter Tryd.func17, Tryd.ntmps17
    go_wp2_with (go_at_call 52; refine (deedOne_ok xFrom xTo xYear xDoubt _ _ _ hsFrom hsTo (by simp) (by simp) (by simp) (by simp)).mono ?_; rintro e w1 ⟨rfl, hb⟩)
    go_ret
    exact ⟨rfl, below_chain hb (Below.refl _ _)⟩
  · have HV := hid hv
    go_enter Tryd.func17, Tryd.ntmps17
    go_wp2_with (first | (go_at_call 52; refine (deedOne_ok xFrom xTo xYear xDoubt _ _ _ hsFrom hsTo (by simp) (by simp) (by simp) (by simp)).mono ?_; rintro e w1 ⟨rfl, hb⟩; have HC := hid (HC0.out.below hb); clear HC0) | (go_at_call 53; refine (deedSText_ok xFrom xTo xYear xDoubt _ _ _ HV.out HC.out.1 (HC.out.2 0 _ rfl) (HC.out.2 1 _ rfl) (HC.out.2 2 _ rfl) (HC.out.2 3 _ rfl)).mono ?_; rintro e w2 ⟨rfl, hb1⟩))
    go_ret
    exact ⟨by simp [orNo], below_chain hb hb1⟩

theorem toDeed_ok (xFrom : ByteArray) (xTo : ByteArray) (xYear : Int) (xDoubt : Int) (w : World) :
    Calls Tryd.prog 18 #[.agg #[.string xFrom, .string xTo, .int .i64 xYear, .int .i64 xDoubt]] w fun e w' => e = .returned (.agg #[.string xFrom, .string xTo, .int .i64 xYear, .int .i64 xDoubt]) ∧ Below w.heap.size w w' := by
  go_enter Tryd.func18, Tryd.ntmps18
  go_wp2_with fail
  exact bodyPost_ret (v := .agg #[.string xFrom, .string xTo, .int .i64 xYear, .int .i64 xDoubt]) (by simp [results, Tryd.results18, go_sem]) rfl ⟨rfl, ((below_alloc _ _).alloc (by simp) _).alloc (by simp; omega) _⟩

theorem szDeed_ok (xFrom : ByteArray) (xTo : ByteArray) (xYear : Int) (xDoubt : Int) (l : Int) (w : World) (hsFrom : xFrom.size ≤ maxLen) (hsTo : xTo.size ≤ maxLen) (h0 : 0 ≤ l) (h1 : l ≤ 1048576) :
    Calls Tryd.prog 16 #[.agg #[.string xFrom, .string xTo, .int .i64 xYear, .int .i64 xDoubt], .int .i64 l] w fun e w' => (∃ z : Int, e = .returned (.int .i64 z)) ∧ Below w.heap.size w w' := by
  unfold maxLen at hsFrom hsTo
  go_enter Tryd.func16, Tryd.ntmps16
  go_wp2_with fail
  all_goals (go_ret; exact ⟨⟨_, rfl⟩, below_alloc _ _⟩)

set_option maxHeartbeats 800000 in
theorem lawDeed_ok (xFrom : ByteArray) (xTo : ByteArray) (xYear : Int) (xDoubt : Int) (w : World) (hsFrom : xFrom.size ≤ maxLen) (hsTo : xTo.size ≤ maxLen) (ht : Tab w) :
    Calls Tryd.prog 4 #[.agg #[.string xFrom, .string xTo, .int .i64 xYear, .int .i64 xDoubt]] w fun e w' => e = .returned (.bool true) ∧ Below w.heap.size w w' := by
  have HT := hid (ht.alloc (.cells [.string xFrom, .string xTo, .int .i64 xYear, .int .i64 xDoubt].toArray 30))
  have HH := hid (HasC.new w [.string xFrom, .string xTo, .int .i64 xYear, .int .i64 xDoubt] 30)
  have HB := hid (below_alloc w (.cells [.string xFrom, .string xTo, .int .i64 xYear, .int .i64 xDoubt].toArray 30))
  clear ht
  go_enter Tryd.func4, Tryd.ntmps4
  go_wp2_with fail
  refine (szDeed_ok xFrom xTo xYear xDoubt _ _ hsFrom hsTo (by omega) (by omega)).mono ?_
  rintro e w1 ⟨⟨z, rfl⟩, hb⟩
  have H1 := hid (HH.out.below hb)
  have T1 := hid (HT.out.below hb)
  have B1 := hid (below_trans HB.out hb)
  have c0 := H1.out.2 0 _ rfl
  have c1 := H1.out.2 1 _ rfl
  have c2 := H1.out.2 2 _ rfl
  have c3 := H1.out.2 3 _ rfl
  clear hb HT HH HB
  go_wp2_with fail
  · go_ret
    exact ⟨rfl, B1.out⟩
  refine (toDeed_ok xFrom xTo xYear xDoubt _).mono ?_
  rintro e w2 ⟨rfl, hb⟩
  have H2 := hid (H1.out.below hb)
  have T2 := hid (T1.out.below hb)
  have B2 := hid (below_trans B1.out hb)
  clear hb H1 T1 B1 c0 c1 c2 c3
  go_wp2_with fail
  refine (specDeedText_ok xFrom xTo xYear xDoubt _ hsFrom hsTo).mono ?_
  rintro e w3 ⟨rfl, hb⟩
  have H3 := hid (H2.out.below hb)
  have T3 := hid (T2.out.below hb)
  have B3 := hid (below_trans B2.out hb)
  have c0 := H3.out.2 0 _ rfl
  have c1 := H3.out.2 1 _ rfl
  have c2 := H3.out.2 2 _ rfl
  have c3 := H3.out.2 3 _ rfl
  clear hb H2 T2 B2
  go_wp2_with fail
  refine (toDeed_ok xFrom xTo xYear xDoubt _).mono ?_
  rintro e w4 ⟨rfl, hb⟩
  have T4 := hid (T3.out.below hb)
  have B4 := hid (below_trans B3.out hb)
  clear hb H3 T3 B3 c0 c1 c2 c3
  go_wp2_with fail
  refine (DeedText_ok xFrom xTo xYear xDoubt _ hsFrom hsTo T4.out).mono ?_
  rintro e w5 ⟨rfl, hb⟩
  have B5 := hid (below_trans B4.out hb)
  clear hb T4 B4
  go_wp2_with fail
  go_ret
  exact ⟨by simp, B5.out⟩

end Go.Proofs.YtdjobekjfggndaaDoor
