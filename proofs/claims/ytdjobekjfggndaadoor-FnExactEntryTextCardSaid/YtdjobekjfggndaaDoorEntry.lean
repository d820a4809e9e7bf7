/- EntryText and its reference. -/
import Derived.Test.YtdjobekjfggndaaDoorDec
import Derived.Test.YtdjobekjfggndaaDoorList
import Derived.Test.YtdjobekjfggndaaDoorKeep
import Derived.Test.YtdjobekjfggndaaDoorRange
namespace Go.Proofs.YtdjobekjfggndaaDoor
open Go.RowKit
set_option linter.unusedVariables false

def entryB (xDay : Int) (xDebit : ByteArray) (xCredit : ByteArray) (xAmount : Int) : Bool := inB xDay 0 100000 && (nameB xDebit && (nameB xCredit && (!(xDebit.toList == xCredit.toList) && (inB xAmount 1 10000000))))

set_option maxRecDepth 100000 in
theorem entryValid_ok (xDay : Int) (xDebit : ByteArray) (xCredit : ByteArray) (xAmount : Int) (w : World) (hsDebit : xDebit.size ≤ maxLen) (hsCredit : xCredit.size ≤ maxLen) :
    Calls Tryd.prog 57 #[.agg #[.int .i64 xDay, .string xDebit, .string xCredit, .int .i64 xAmount]] w fun e w' => e = .returned (.bool (entryB xDay xDebit xCredit xAmount)) ∧ Below w.heap.size w w' := by
  go_enter Tryd.func57, Tryd.ntmps57
  go_wp2_with (first | (go_at_call 89; refine (isRentDay_ok _ _).mono ?_; rintro e w' ⟨rfl, rfl⟩) | (go_at_call 82; refine (IsName_ok _ _ (by assumption)).mono ?_; rintro e w' ⟨rfl, rfl⟩) | (go_at_call 84; refine (within_ok _ _ _ _).mono ?_; rintro e w' ⟨rfl, rfl⟩))
  all_goals (go_ret; exact ⟨ret_bool (by simp [entryB, *]), below_alloc _ _⟩)

set_option maxHeartbeats 800000 in
set_option maxRecDepth 100000 in
theorem entryOne_ok (xDay : Int) (xDebit : ByteArray) (xCredit : ByteArray) (xAmount : Int) (b o : Nat) (w : World) (hsDebit : xDebit.size ≤ maxLen) (hsCredit : xCredit.size ≤ maxLen) (k0 : w.cell? ⟨b, o, none⟩ = some (.int .i64 xDay)) (k1 : w.cell? ⟨b, o + 1, none⟩ = some (.string xDebit)) (k2 : w.cell? ⟨b, o + 2, none⟩ = some (.string xCredit)) (k3 : w.cell? ⟨b, o + 3, none⟩ = some (.int .i64 xAmount)) :
    Calls Tryd.prog 55 #[.pointer (some ⟨b, o, none⟩)] w fun e w' => e = .returned (.bool (entryB xDay xDebit xCredit xAmount)) ∧ Below w.heap.size w w' := by
  cases h0 : inB xDay 0 100000
  · have HB := hid (show entryB xDay xDebit xCredit xAmount = false by simp [entryB, h0])
    go_enter Tryd.func55, Tryd.ntmps55
    go_wp2_with fail
    go_quiet (first | (go_at_call 88; with_reducible exact quiet_left (l21Day_eq h0 _)))
    go_wp2_with fail
    go_ret
    exact ⟨ret_bool (HB.out.symm), below_drewN _ _⟩
  cases h1 : nameB xDebit
  · have HB := hid (show entryB xDay xDebit xCredit xAmount = false by simp [entryB, h0, h1])
    go_enter Tryd.func55, Tryd.ntmps55
    go_wp2_with fail
    go_quiet (first | (go_at_call 88; with_reducible exact quiet_left (l21Day_eq h0 _)) | (go_at_call 78; with_reducible exact quiet_left (l01Name_eq h1 _ (by assumption))))
    go_wp2_with fail
    go_ret
    exact ⟨ret_bool (HB.out.symm), below_drewN _ _⟩
  cases h2 : nameB xCredit
  · have HB := hid (show entryB xDay xDebit xCredit xAmount = false by simp [entryB, h0, h1, h2])
    go_enter Tryd.func55, Tryd.ntmps55
    go_wp2_with fail
    go_quiet (first | (go_at_call 88; with_reducible exact quiet_left (l21Day_eq h0 _)) | (go_at_call 78; with_reducible exact quiet_left (l01Name_eq h1 _ (by assumption))) | (go_at_call 78; with_reducible exact quiet_left (l01Name_eq h2 _ (by assumption))))
    go_wp2_with fail
    go_ret
    exact ⟨ret_bool (HB.out.symm), below_drewN _ _⟩
  cases h3 : (xDebit.toList == xCredit.toList)
  rotate_left
  · have HB := hid (show entryB xDay xDebit xCredit xAmount = false by simp [entryB, h0, h1, h2, h3])
    go_enter Tryd.func55, Tryd.ntmps55
    go_wp2_with fail
    go_quiet (first | (go_at_call 88; with_reducible exact quiet_left (l21Day_eq h0 _)) | (go_at_call 78; with_reducible exact quiet_left (l01Name_eq h1 _ (by assumption))) | (go_at_call 78; with_reducible exact quiet_left (l01Name_eq h2 _ (by assumption))))
    go_wp2_with fail
    go_ret
    exact ⟨ret_bool (HB.out.symm), below_drewN _ _⟩
  cases h4 : inB xAmount 1 10000000
  · have HB := hid (show entryB xDay xDebit xCredit xAmount = false by simp [entryB, h0, h1, h2, h3, h4])
    go_enter Tryd.func55, Tryd.ntmps55
    go_wp2_with fail
    go_quiet (first | (go_at_call 88; with_reducible exact quiet_left (l21Day_eq h0 _)) | (go_at_call 78; with_reducible exact quiet_left (l01Name_eq h1 _ (by assumption))) | (go_at_call 78; with_reducible exact quiet_left (l01Name_eq h2 _ (by assumption))) | (go_at_call 80; with_reducible exact quiet_left (l00In_eq h4 _)))
    go_wp2_with fail
    go_ret
    exact ⟨ret_bool (HB.out.symm), below_drewN _ _⟩
  have HB := hid (show entryB xDay xDebit xCredit xAmount = true by simp [entryB, h0, h1, h2, h3, h4])
  go_enter Tryd.func55, Tryd.ntmps55
  go_wp2_with fail
  go_quiet (first | (go_at_call 88; with_reducible exact quiet_left (l21Day_eq h0 _)) | (go_at_call 78; with_reducible exact quiet_left (l01Name_eq h1 _ (by assumption))) | (go_at_call 78; with_reducible exact quiet_left (l01Name_eq h2 _ (by assumption))) | (go_at_call 80; with_reducible exact quiet_left (l00In_eq h4 _)))
  go_wp2_with fail
  go_ret
  exact ⟨ret_bool (HB.out.symm), below_drewN _ _⟩

theorem entryB_bd {xDebit xCredit : ByteArray} {xDay xAmount : Int} (h : entryB xDay xDebit xCredit xAmount = true) : xDebit.size ≤ 10 ∧ xCredit.size ≤ 10 ∧ 0 ≤ xDay ∧ xDay ≤ 10000000 ∧ 0 ≤ xAmount ∧ xAmount ≤ 10000000 := by
  simp only [entryB, Bool.and_eq_true, inB_iff, Bool.not_eq_true'] at h
  obtain ⟨a0, a1, a2, a3, a4⟩ := h
  refine ⟨name_size a1, name_size a2, by omega, by omega, by omega, by omega⟩

/-- the text -/
def entryT (xDay : Int) (xDebit : ByteArray) (xCredit : ByteArray) (xAmount : Int) : ByteArray := dec xDay ++ ⟨#[32]⟩ ++ xCredit ++ ⟨#[45]⟩ ++ xDebit ++ ⟨#[32]⟩ ++ dec xAmount

set_option maxHeartbeats 800000 in
set_option maxRecDepth 100000 in
theorem EntryText_ok (xDay : Int) (xDebit : ByteArray) (xCredit : ByteArray) (xAmount : Int) (w : World) (hsDebit : xDebit.size ≤ maxLen) (hsCredit : xCredit.size ≤ maxLen) (ht : Tab w) :
    Calls Tryd.prog 23 #[.agg #[.int .i64 xDay, .string xDebit, .string xCredit, .int .i64 xAmount]] w fun e w' => e = .returned (.string (orNo (entryB xDay xDebit xCredit xAmount) (entryT xDay xDebit xCredit xAmount))) ∧ Below w.heap.size w w' := by
  cases hv : entryB xDay xDebit xCredit xAmount
  · go_enter Tryd.func23, Tryd.ntmps23
    go_wp2_with (go_at_call 57; refine (entryValid_ok _ _ _ _ _ hsDebit hsCredit).mono ?_; rintro e w1 ⟨rfl, hb⟩)
    go_ret
    exact ⟨rfl, below_chain hb (Below.refl _ _)⟩
  · obtain ⟨zDebit, zCredit, lDay, uDay, lAmount, uAmount⟩ := entryB_bd hv
    have HC0 := hid (HasC.new w [.int .i64 xDay, .string xDebit, .string xCredit, .int .i64 xAmount] 40)
    have HT := hid (ht.alloc (.cells [.int .i64 xDay, .string xDebit, .string xCredit, .int .i64 xAmount].toArray 40))
    clear ht
    go_enter Tryd.func23, Tryd.ntmps23
    go_wp2_with (go_at_call 57; refine (entryValid_ok _ _ _ _ _ hsDebit hsCredit).mono ?_; rintro e w1 ⟨rfl, hb⟩)
    have HC := hid (HC0.out.below hb)
    have k0 : w1.cell? ⟨w.heap.size, 0, none⟩ = some (.int .i64 xDay) := HC.out.2 0 _ rfl
    have k1 : w1.cell? ⟨w.heap.size, 1, none⟩ = some (.string xDebit) := HC.out.2 1 _ rfl
    have k2 : w1.cell? ⟨w.heap.size, 2, none⟩ = some (.string xCredit) := HC.out.2 2 _ rfl
    have k3 : w1.cell? ⟨w.heap.size, 3, none⟩ = some (.int .i64 xAmount) := HC.out.2 3 _ rfl
    have hlt : w.heap.size < w1.heap.size := HC.out.1
    have ht1 : Tab w1 := HT.out.below hb
    clear HC HC0 HT hv
    have sdDay : (dec xDay).size ≤ 20 := dec_size (by omega) (by omega)
    have sdAmount : (dec xAmount).size ≤ 20 := dec_size (by omega) (by omega)
    have g1 : ¬ 9223372036854775807 < (dec xDay).size + 1 := by omega
    have g2 : ¬ 9223372036854775807 < (dec xDay).size + 1 + xCredit.size := by omega
    have g3 : ¬ 9223372036854775807 < (dec xDay).size + 1 + xCredit.size + 1 := by omega
    have g4 : ¬ 9223372036854775807 < (dec xDay).size + 1 + xCredit.size + 1 + xDebit.size := by omega
    have g5 : ¬ 9223372036854775807 < (dec xDay).size + 1 + xCredit.size + 1 + xDebit.size + 1 := by omega
    have g6 : ¬ 9223372036854775807 < (dec xDay).size + 1 + xCredit.size + 1 + xDebit.size + 1 + (dec xAmount).size := by omega
    go_region_held3 (fun w' => (Tab w' ∧ Below w1.heap.size w1 w') ∧ w'.cell? ⟨w.heap.size, 0, none⟩ = some (.int .i64 xDay) ∧ w'.cell? ⟨w.heap.size, 1, none⟩ = some (.string xDebit) ∧ w'.cell? ⟨w.heap.size, 2, none⟩ = some (.string xCredit) ∧ w'.cell? ⟨w.heap.size, 3, none⟩ = some (.int .i64 xAmount))
      (first | exact ⟨⟨ht1.drew, (Below.refl _ _).drew⟩, k0, k1, k2, k3⟩ | exact keepT4 hlt ‹_ ∧ _› ‹Below _ _ _›)
      (first | (go_at_call 51; refine (Decimal_ok _ _ (by omega) (by omega) (And.left (And.left ‹(Tab _ ∧ _) ∧ _›))).mono ?_; rintro e w2 ⟨rfl, hb2⟩))
    go_wp2_with fail
    go_ret
    obtain ⟨⟨_, hB⟩, _⟩ := ‹(Tab _ ∧ _) ∧ _›
    exact ⟨by simp [entryT, orNo], below_chain hb hB⟩

set_option maxHeartbeats 800000 in
set_option maxRecDepth 100000 in
theorem entrySText_ok (xDay : Int) (xDebit : ByteArray) (xCredit : ByteArray) (xAmount : Int) (b o : Nat) (w : World) (hv : entryB xDay xDebit xCredit xAmount = true) (hlt : b < w.heap.size) (k0 : w.cell? ⟨b, o, none⟩ = some (.int .i64 xDay)) (k1 : w.cell? ⟨b, o + 1, none⟩ = some (.string xDebit)) (k2 : w.cell? ⟨b, o + 2, none⟩ = some (.string xCredit)) (k3 : w.cell? ⟨b, o + 3, none⟩ = some (.int .i64 xAmount)) :
    Calls Tryd.prog 56 #[.pointer (some ⟨b, o, none⟩)] w fun e w' => e = .returned (.string (entryT xDay xDebit xCredit xAmount)) ∧ Below w.heap.size w w' := by
  · obtain ⟨zDebit, zCredit, lDay, uDay, lAmount, uAmount⟩ := entryB_bd hv
    have sdDay : (dec xDay).size ≤ 20 := dec_size (by omega) (by omega)
    have sdAmount : (dec xAmount).size ≤ 20 := dec_size (by omega) (by omega)
    have g1 : ¬ 9223372036854775807 < (dec xDay).size + 1 := by omega
    have g2 : ¬ 9223372036854775807 < (dec xDay).size + 1 + xCredit.size := by omega
    have g3 : ¬ 9223372036854775807 < (dec xDay).size + 1 + xCredit.size + 1 := by omega
    have g4 : ¬ 9223372036854775807 < (dec xDay).size + 1 + xCredit.size + 1 + xDebit.size := by omega
    have g5 : ¬ 9223372036854775807 < (dec xDay).size + 1 + xCredit.size + 1 + xDebit.size + 1 := by omega
    have g6 : ¬ 9223372036854775807 < (dec xDay).size + 1 + xCredit.size + 1 + xDebit.size + 1 + (dec xAmount).size := by omega
    clear hv
    go_enter Tryd.func56, Tryd.ntmps56
    go_wp2_with fail
    go_region_held3 (fun w' => (True ∧ Below w.heap.size w w') ∧ w'.cell? ⟨b, o, none⟩ = some (.int .i64 xDay) ∧ w'.cell? ⟨b, o + 1, none⟩ = some (.string xDebit) ∧ w'.cell? ⟨b, o + 2, none⟩ = some (.string xCredit) ∧ w'.cell? ⟨b, o + 3, none⟩ = some (.int .i64 xAmount))
      (first | exact ⟨⟨trivial, (Below.refl _ _).drew⟩, k0, k1, k2, k3⟩ | exact keepN4 hlt ‹_ ∧ _› ‹Below _ _ _›)
      (first | (go_at_call 81; refine (l01Dec_ok _ _ (by omega) (by omega)).mono ?_; rintro e w2 ⟨rfl, hb2⟩))
    go_wp2_with fail
    go_ret
    obtain ⟨⟨_, hB⟩, _⟩ := ‹(_ ∧ Below _ _ _) ∧ _›
    exact ⟨by simp [entryT], hB⟩

theorem specEntryText_ok (xDay : Int) (xDebit : ByteArray) (xCredit : ByteArray) (xAmount : Int) (w : World) (hsDebit : xDebit.size ≤ maxLen) (hsCredit : xCredit.size ≤ maxLen) :
    Calls Tryd.prog 21 #[.agg #[.int .i64 xDay, .string xDebit, .string xCredit, .int .i64 xAmount]] w fun e w' => e = .returned (.string (orNo (entryB xDay xDebit xCredit xAmount) (entryT xDay xDebit xCredit xAmount))) ∧ Below w.heap.size w w' := by
  have HC0 := hid (HasC.new w [.int .i64 xDay, .string xDebit, .string xCredit, .int .i64 xAmount] 40)
  cases hv : entryB xDay xDebit xCredit xAmount
  · clear HC0
    go_enter Tryd.func21, Tryd.ntmps21
    go_wp2_with (go_at_call 55; refine (entryOne_ok xDay xDebit xCredit xAmount _ _ _ hsDebit hsCredit (by simp) (by simp) (by simp) (by simp)).mono ?_; rintro e w1 ⟨rfl, hb⟩)
    go_ret
    exact ⟨rfl, below_chain hb (Below.refl _ _)⟩
  · have HV := hid hv
    go_enter Tryd.func21, Tryd.ntmps21
    go_wp2_with (first | (go_at_call 55; refine (entryOne_ok xDay xDebit xCredit xAmount _ _ _ hsDebit hsCredit (by simp) (by simp) (by simp) (by simp)).mono ?_; rintro e w1 ⟨rfl, hb⟩; have HC := hid (HC0.out.below hb); clear HC0) | (go_at_call 56; refine (entrySText_ok xDay xDebit xCredit xAmount _ _ _ HV.out HC.out.1 (HC.out.2 0 _ rfl) (HC.out.2 1 _ rfl) (HC.out.2 2 _ rfl) (HC.out.2 3 _ rfl)).mono ?_; rintro e w2 ⟨rfl, hb1⟩))
    go_ret
    exact ⟨by simp [orNo], below_chain hb hb1⟩

theorem toEntry_ok (xDay : Int) (xDebit : ByteArray) (xCredit : ByteArray) (xAmount : Int) (w : World) :
    Calls Tryd.prog 22 #[.agg #[.int .i64 xDay, .string xDebit, .string xCredit, .int .i64 xAmount]] w fun e w' => e = .returned (.agg #[.int .i64 xDay, .string xDebit, .string xCredit, .int .i64 xAmount]) ∧ Below w.heap.size w w' := by
  go_enter Tryd.func22, Tryd.ntmps22
  go_wp2_with fail
  exact bodyPost_ret (v := .agg #[.int .i64 xDay, .string xDebit, .string xCredit, .int .i64 xAmount]) (by simp [results, Tryd.results22, go_sem]) rfl ⟨rfl, ((below_alloc _ _).alloc (by simp) _).alloc (by simp; omega) _⟩

theorem szEntry_ok (xDay : Int) (xDebit : ByteArray) (xCredit : ByteArray) (xAmount : Int) (l : Int) (w : World) (hsDebit : xDebit.size ≤ maxLen) (hsCredit : xCredit.size ≤ maxLen) (h0 : 0 ≤ l) (h1 : l ≤ 1048576) :
    Calls Tryd.prog 20 #[.agg #[.int .i64 xDay, .string xDebit, .string xCredit, .int .i64 xAmount], .int .i64 l] w fun e w' => (∃ z : Int, e = .returned (.int .i64 z)) ∧ Below w.heap.size w w' := by
  unfold maxLen at hsDebit hsCredit
  go_enter Tryd.func20, Tryd.ntmps20
  go_wp2_with fail
  all_goals (go_ret; exact ⟨⟨_, rfl⟩, below_alloc _ _⟩)

set_option maxHeartbeats 800000 in
theorem lawEntry_ok (xDay : Int) (xDebit : ByteArray) (xCredit : ByteArray) (xAmount : Int) (w : World) (hsDebit : xDebit.size ≤ maxLen) (hsCredit : xCredit.size ≤ maxLen) (ht : Tab w) :
    Calls Tryd.prog 5 #[.agg #[.int .i64 xDay, .string xDebit, .string xCredit, .int .i64 xAmount]] w fun e w' => e = .returned (.bool true) ∧ Below w.heap.size w w' := by
  have HT := hid (ht.alloc (.cells [.int .i64 xDay, .string xDebit, .string xCredit, .int .i64 xAmount].toArray 37))
  have HH := hid (HasC.new w [.int .i64 xDay, .string xDebit, .string xCredit, .int .i64 xAmount] 37)
  have HB := hid (below_alloc w (.cells [.int .i64 xDay, .string xDebit, .string xCredit, .int .i64 xAmount].toArray 37))
  clear ht
  go_enter Tryd.func5, Tryd.ntmps5
  go_wp2_with fail
  refine (szEntry_ok xDay xDebit xCredit xAmount _ _ hsDebit hsCredit (by omega) (by omega)).mono ?_
  rintro e w1 ⟨⟨z, rfl⟩, hb⟩
  have H1 := hid (HH.out.below hb)
  have T1 := hid (HT.out.below hb)
  have B1 := hid (below_trans HB.out hb)
  have c0 := H1.out.2 0 _ rfl
  have c1 := H1.out.2 1 _ rfl
  have c2 := H1.out.2 2 _ rfl
  have c3 := H1.out.2 3 _ rfl
  clear hb HT HH HB
  go_wp2_with fail
  · go_ret
    exact ⟨rfl, B1.out⟩
  refine (toEntry_ok xDay xDebit xCredit xAmount _).mono ?_
  rintro e w2 ⟨rfl, hb⟩
  have H2 := hid (H1.out.below hb)
  have T2 := hid (T1.out.below hb)
  have B2 := hid (below_trans B1.out hb)
  clear hb H1 T1 B1 c0 c1 c2 c3
  go_wp2_with fail
  refine (specEntryText_ok xDay xDebit xCredit xAmount _ hsDebit hsCredit).mono ?_
  rintro e w3 ⟨rfl, hb⟩
  have H3 := hid (H2.out.below hb)
  have T3 := hid (T2.out.below hb)
  have B3 := hid (below_trans B2.out hb)
  have c0 := H3.out.2 0 _ rfl
  have c1 := H3.out.2 1 _ rfl
  have c2 := H3.out.2 2 _ rfl
  have c3 := H3.out.2 3 _ rfl
  clear hb H2 T2 B2
  go_wp2_with fail
  refine (toEntry_ok xDay xDebit xCredit xAmount _).mono ?_
  rintro e w4 ⟨rfl, hb⟩
  have T4 := hid (T3.out.below hb)
  have B4 := hid (below_trans B3.out hb)
  clear hb H3 T3 B3 c0 c1 c2 c3
  go_wp2_with fail
  refine (EntryText_ok xDay xDebit xCredit xAmount _ hsDebit hsCredit T4.out).mono ?_
  rintro e w5 ⟨rfl, hb⟩
  have B5 := hid (below_trans B4.out hb)
  clear hb T4 B4
  go_wp2_with fail
  go_ret
  exact ⟨by simp, B5.out⟩

end Go.Proofs.YtdjobekjfggndaaDoor
