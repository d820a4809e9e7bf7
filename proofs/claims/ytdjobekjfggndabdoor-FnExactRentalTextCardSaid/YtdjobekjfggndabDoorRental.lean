/- RentalText and its reference. -/
import Derived.Test.YtdjobekjfggndabDoorDec
import Derived.Test.YtdjobekjfggndabDoorList
import Derived.Test.YtdjobekjfggndabDoorKeep
import Derived.Test.YtdjobekjfggndabDoorRange
namespace Go.Proofs.YtdjobekjfggndabDoor
open Go.RowKit
set_option linter.unusedVariables false

def rentalB (xId : ByteArray) (xItem : ByteArray) (xDay : Int) (xMonths : Int) (xFee : Int) : Bool := nameB xId && (nameB xItem && (inB xDay 0 100000 && (inB xMonths 1 120 && (inB xFee 0 10000000))))

set_option maxRecDepth 100000 in
theorem rentalValid_ok (xId : ByteArray) (xItem : ByteArray) (xDay : Int) (xMonths : Int) (xFee : Int) (w : World) (hsId : xId.size ≤ maxLen) (hsItem : xItem.size ≤ maxLen) :
    Calls Tryd.prog 66 #[.agg #[.string xId, .string xItem, .int .i64 xDay, .int .i64 xMonths, .int .i64 xFee]] w fun e w' => e = .returned (.bool (rentalB xId xItem xDay xMonths xFee)) ∧ Below w.heap.size w w' := by
  go_enter Tryd.func66, Tryd.ntmps66
  go_wp2_with (first | (go_at_call 96; refine (IsName_ok _ _ (by assumption)).mono ?_; rintro e w' ⟨rfl, rfl⟩) | (go_at_call 109; refine (isRentDay_ok _ _).mono ?_; rintro e w' ⟨rfl, rfl⟩) | (go_at_call 110; refine (isMonths_ok _ _).mono ?_; rintro e w' ⟨rfl, rfl⟩) | (go_at_call 101; refine (isMoney_ok _ _).mono ?_; rintro e w' ⟨rfl, rfl⟩))
  all_goals (go_ret; exact ⟨ret_bool (by simp [rentalB, *]), below_alloc _ _⟩)

set_option maxRecDepth 100000 in
theorem rentalOne_ok (xId : ByteArray) (xItem : ByteArray) (xDay : Int) (xMonths : Int) (xFee : Int) (b o : Nat) (w : World) (hsId : xId.size ≤ maxLen) (hsItem : xItem.size ≤ maxLen) (k0 : w.cell? ⟨b, o, none⟩ = some (.string xId)) (k1 : w.cell? ⟨b, o + 1, none⟩ = some (.string xItem)) (k2 : w.cell? ⟨b, o + 2, none⟩ = some (.int .i64 xDay)) (k3 : w.cell? ⟨b, o + 3, none⟩ = some (.int .i64 xMonths)) (k4 : w.cell? ⟨b, o + 4, none⟩ = some (.int .i64 xFee)) :
    Calls Tryd.prog 64 #[.pointer (some ⟨b, o, none⟩)] w fun e w' => e = .returned (.bool (rentalB xId xItem xDay xMonths xFee)) ∧ Below w.heap.size w w' := by
  go_enter Tryd.func64, Tryd.ntmps64
  go_wp2_with (first | (go_at_call 92; refine (l01Name_ok _ _ (by assumption)).mono ?_; rintro e w' ⟨rfl, rfl⟩) | (go_at_call 108; refine (l21Day_ok _ _).mono ?_; rintro e w' ⟨rfl, rfl⟩) | (go_at_call 68; refine (l00In_ok _ _ _ _).mono ?_; rintro e w' ⟨rfl, rfl⟩) | (go_at_call 99; refine (l21Money_ok _ _).mono ?_; rintro e w' ⟨rfl, rfl⟩))
  all_goals (go_ret; exact ⟨ret_bool (by simp [rentalB, *]), Below.refl _ _⟩)

theorem rentalB_bd {xId xItem : ByteArray} {xDay xMonths xFee : Int} (h : rentalB xId xItem xDay xMonths xFee = true) : xId.size ≤ 10 ∧ xItem.size ≤ 10 ∧ 0 ≤ xDay ∧ xDay ≤ 10000000 ∧ 0 ≤ xMonths ∧ xMonths ≤ 10000000 ∧ 0 ≤ xFee ∧ xFee ≤ 10000000 := by
  simp only [rentalB, Bool.and_eq_true, inB_iff] at h
  obtain ⟨a0, a1, a2, a3, a4⟩ := h
  refine ⟨name_size a0, name_size a1, by omega, by omega, by omega, by omega, by omega, by omega⟩

/-- the text -/
def rentalT (xId : ByteArray) (xItem : ByteArray) (xDay : Int) (xMonths : Int) (xFee : Int) : ByteArray := xId ++ ⟨#[32]⟩ ++ (xItem ++ ⟨#[32]⟩ ++ listT [xDay, xMonths, xFee])

theorem first_intsRental {w : World} {A : Option Addr} {ns : List Int} (h : IntsAt w A ns) : IntsAt w A ns := h
set_option maxHeartbeats 800000 in
set_option maxRecDepth 100000 in
theorem RentalText_ok (xId : ByteArray) (xItem : ByteArray) (xDay : Int) (xMonths : Int) (xFee : Int) (w : World) (hsId : xId.size ≤ maxLen) (hsItem : xItem.size ≤ maxLen) (ht : Tab w) :
    Calls Tryd.prog 31 #[.agg #[.string xId, .string xItem, .int .i64 xDay, .int .i64 xMonths, .int .i64 xFee]] w fun e w' => e = .returned (.string (orNo (rentalB xId xItem xDay xMonths xFee) (rentalT xId xItem xDay xMonths xFee))) ∧ Below w.heap.size w w' := by
  cases hv : rentalB xId xItem xDay xMonths xFee
  · go_enter Tryd.func31, Tryd.ntmps31
    go_wp2_with (go_at_call 66; refine (rentalValid_ok _ _ _ _ _ _ hsId hsItem).mono ?_; rintro e w1 ⟨rfl, hb⟩)
    go_ret
    exact ⟨rfl, below_chain hb (Below.refl _ _)⟩
  · obtain ⟨zId, zItem, lDay, uDay, lMonths, uMonths, lFee, uFee⟩ := rentalB_bd hv
    have HC0 := hid (HasC.new w [.string xId, .string xItem, .int .i64 xDay, .int .i64 xMonths, .int .i64 xFee] 54)
    have HT := hid (ht.alloc (.cells [.string xId, .string xItem, .int .i64 xDay, .int .i64 xMonths, .int .i64 xFee].toArray 54))
    have hsm := hid (show Small [xDay, xMonths, xFee] from ⟨by simp, by intro n hn; simp at hn; omega⟩)
    have hsz : (listT [xDay, xMonths, xFee]).size ≤ 1344 := listT_size hsm.out
    have g1 : ¬ 9223372036854775807 < xId.size + 1 := by omega
    have g2 : ¬ 9223372036854775807 < xId.size + 1 + (xItem.size + 1 + (listT [xDay, xMonths, xFee]).size) := by omega
    clear ht
    go_enter Tryd.func31, Tryd.ntmps31
    go_wp2_with (go_at_call 66; refine (rentalValid_ok _ _ _ _ _ _ hsId hsItem).mono ?_; rintro e w1 ⟨rfl, hb⟩; have HC := hid (HC0.out.below hb); have k0 : w1.cell? ⟨w.heap.size, 0, none⟩ = some (.string xId) := HC.out.2 0 _ rfl; have k1 : w1.cell? ⟨w.heap.size, 1, none⟩ = some (.string xItem) := HC.out.2 1 _ rfl; have k2 : w1.cell? ⟨w.heap.size, 2, none⟩ = some (.int .i64 xDay) := HC.out.2 2 _ rfl; have k3 : w1.cell? ⟨w.heap.size, 3, none⟩ = some (.int .i64 xMonths) := HC.out.2 3 _ rfl; have k4 : w1.cell? ⟨w.heap.size, 4, none⟩ = some (.int .i64 xFee) := HC.out.2 4 _ rfl; have hlt : w.heap.size < w1.heap.size := HC.out.1; have ht1 : Tab w1 := HT.out.below hb; clear HC HC0 HT)
    go_region_held3 (fun w' => (Tab w' ∧ Below w1.heap.size w1 w') ∧ w'.cell? ⟨w.heap.size, 0, none⟩ = some (.string xId) ∧ w'.cell? ⟨w.heap.size, 1, none⟩ = some (.string xItem) ∧ w'.cell? ⟨w.heap.size, 2, none⟩ = some (.int .i64 xDay) ∧ w'.cell? ⟨w.heap.size, 3, none⟩ = some (.int .i64 xMonths) ∧ w'.cell? ⟨w.heap.size, 4, none⟩ = some (.int .i64 xFee))
      (first | exact ⟨⟨ht1.drew, (Below.refl _ _).drew⟩, k0, k1, k2, k3, k4⟩ | exact keepT5 hlt ‹_ ∧ _› (below_alloc _ _) | exact keepT5 hlt ‹_ ∧ _› ‹Below _ _ _›)
      (first | (go_at_call 54; refine (named_ok _ _ _ [xDay, xMonths, xFee] _ zItem (And.left (And.left ‹(Tab _ ∧ _) ∧ _›)) (first_intsRental (by first | exact IntsAt.new _ [xDay, xMonths, xFee] _ | exact (IntsAt.new _ [xDay, xMonths, xFee] _).drew)) hsm.out).mono ?_; rintro e w2 ⟨rfl, hb2⟩))
    go_wp2_with fail
    go_ret
    obtain ⟨⟨_, hB⟩, _⟩ := ‹(Tab _ ∧ _) ∧ _›
    exact ⟨by simp [rentalT, orNo], below_chain hb hB⟩

set_option maxHeartbeats 800000 in
set_option maxRecDepth 100000 in
theorem rentalSText_ok (xId : ByteArray) (xItem : ByteArray) (xDay : Int) (xMonths : Int) (xFee : Int) (b o : Nat) (w : World) (hv : rentalB xId xItem xDay xMonths xFee = true) (hlt : b < w.heap.size) (k0 : w.cell? ⟨b, o, none⟩ = some (.string xId)) (k1 : w.cell? ⟨b, o + 1, none⟩ = some (.string xItem)) (k2 : w.cell? ⟨b, o + 2, none⟩ = some (.int .i64 xDay)) (k3 : w.cell? ⟨b, o + 3, none⟩ = some (.int .i64 xMonths)) (k4 : w.cell? ⟨b, o + 4, none⟩ = some (.int .i64 xFee)) :
    Calls Tryd.prog 65 #[.pointer (some ⟨b, o, none⟩)] w fun e w' => e = .returned (.string (rentalT xId xItem xDay xMonths xFee)) ∧ Below w.heap.size w w' := by
  · obtain ⟨zId, zItem, lDay, uDay, lMonths, uMonths, lFee, uFee⟩ := rentalB_bd hv
    have hsm := hid (show Small [xDay, xMonths, xFee] from ⟨by simp, by intro n hn; simp at hn; omega⟩)
    have hsz : (listT [xDay, xMonths, xFee]).size ≤ 1344 := listT_size hsm.out
    have g1 : ¬ 9223372036854775807 < xId.size + 1 := by omega
    have g2 : ¬ 9223372036854775807 < xId.size + 1 + xItem.size := by omega
    have g3 : ¬ 9223372036854775807 < xId.size + 1 + xItem.size + 1 := by omega
    have g4 : ¬ 9223372036854775807 < xId.size + 1 + xItem.size + 1 + (listT [xDay, xMonths, xFee]).size := by omega
    clear hv
    go_enter Tryd.func65, Tryd.ntmps65
    go_wp2_with fail
    go_region_held3 (fun w' => (True ∧ Below w.heap.size w w') ∧ w'.cell? ⟨b, o, none⟩ = some (.string xId) ∧ w'.cell? ⟨b, o + 1, none⟩ = some (.string xItem) ∧ w'.cell? ⟨b, o + 2, none⟩ = some (.int .i64 xDay) ∧ w'.cell? ⟨b, o + 3, none⟩ = some (.int .i64 xMonths) ∧ w'.cell? ⟨b, o + 4, none⟩ = some (.int .i64 xFee))
      (first | exact ⟨⟨trivial, (Below.refl _ _).drew⟩, k0, k1, k2, k3, k4⟩ | exact keepN5 hlt ‹_ ∧ _› (below_alloc _ _) | exact keepN5 hlt ‹_ ∧ _› ‹Below _ _ _›)
      (first | (go_at_call 95; refine (l01List_ok _ _ [xDay, xMonths, xFee] _ (first_intsRental (by first | exact IntsAt.new _ [xDay, xMonths, xFee] _ | exact (IntsAt.new _ [xDay, xMonths, xFee] _).drew)) hsm.out (by intro n hn; simp at hn; omega)).mono ?_; rintro e w2 ⟨rfl, hb2⟩))
    go_wp2_with fail
    go_ret
    obtain ⟨⟨_, hB⟩, _⟩ := ‹(_ ∧ Below _ _ _) ∧ _›
    exact ⟨by simp [rentalT, ByteArray.append_assoc], hB⟩

theorem specRentalText_ok (xId : ByteArray) (xItem : ByteArray) (xDay : Int) (xMonths : Int) (xFee : Int) (w : World) (hsId : xId.size ≤ maxLen) (hsItem : xItem.size ≤ maxLen) :
    Calls Tryd.prog 29 #[.agg #[.string xId, .string xItem, .int .i64 xDay, .int .i64 xMonths, .int .i64 xFee]] w fun e w' => e = .returned (.string (orNo (rentalB xId xItem xDay xMonths xFee) (rentalT xId xItem xDay xMonths xFee))) ∧ Below w.heap.size w w' := by
  have HC0 := hid (HasC.new w [.string xId, .string xItem, .int .i64 xDay, .int .i64 xMonths, .int .i64 xFee] 54)
  cases hv : rentalB xId xItem xDay xMonths xFee
  · clear HC0
    go_enter Tryd.func29, Tryd.ntmps29
    go_wp2_with (go_at_call 64; refine (rentalOne_ok xId xItem xDay xMonths xFee _ _ _ hsId hsItem (by simp) (by simp) (by simp) (by simp) (by simp)).mono ?_; rintro e w1 ⟨rfl, hb⟩)
    go_ret
    exact ⟨rfl, below_chain hb (Below.refl _ _)⟩
  · have HV := hid hv
    go_enter Tryd.func29, Tryd.ntmps29
    go_wp2_with (first | (go_at_call 64; refine (rentalOne_ok xId xItem xDay xMonths xFee _ _ _ hsId hsItem (by simp) (by simp) (by simp) (by simp) (by simp)).mono ?_; rintro e w1 ⟨rfl, hb⟩; have HC := hid (HC0.out.below hb); clear HC0) | (go_at_call 65; refine (rentalSText_ok xId xItem xDay xMonths xFee _ _ _ HV.out HC.out.1 (HC.out.2 0 _ rfl) (HC.out.2 1 _ rfl) (HC.out.2 2 _ rfl) (HC.out.2 3 _ rfl) (HC.out.2 4 _ rfl)).mono ?_; rintro e w2 ⟨rfl, hb1⟩))
    go_ret
    exact ⟨by simp [orNo], below_chain hb hb1⟩

theorem toRental_ok (xId : ByteArray) (xItem : ByteArray) (xDay : Int) (xMonths : Int) (xFee : Int) (w : World) :
    Calls Tryd.prog 30 #[.agg #[.string xId, .string xItem, .int .i64 xDay, .int .i64 xMonths, .int .i64 xFee]] w fun e w' => e = .returned (.agg #[.string xId, .string xItem, .int .i64 xDay, .int .i64 xMonths, .int .i64 xFee]) ∧ Below w.heap.size w w' := by
  go_enter Tryd.func30, Tryd.ntmps30
  go_wp2_with fail
  exact bodyPost_ret (v := .agg #[.string xId, .string xItem, .int .i64 xDay, .int .i64 xMonths, .int .i64 xFee]) (by simp [results, Tryd.results30, go_sem]) rfl ⟨rfl, ((below_alloc _ _).alloc (by simp) _).alloc (by simp; omega) _⟩

theorem szRental_ok (xId : ByteArray) (xItem : ByteArray) (xDay : Int) (xMonths : Int) (xFee : Int) (l : Int) (w : World) (hsId : xId.size ≤ maxLen) (hsItem : xItem.size ≤ maxLen) (h0 : 0 ≤ l) (h1 : l ≤ 1048576) :
    Calls Tryd.prog 28 #[.agg #[.string xId, .string xItem, .int .i64 xDay, .int .i64 xMonths, .int .i64 xFee], .int .i64 l] w fun e w' => (∃ z : Int, e = .returned (.int .i64 z)) ∧ Below w.heap.size w w' := by
  unfold maxLen at hsId hsItem
  go_enter Tryd.func28, Tryd.ntmps28
  go_wp2_with fail
  all_goals (go_ret; exact ⟨⟨_, rfl⟩, below_alloc _ _⟩)

set_option maxHeartbeats 800000 in
theorem lawRental_ok (xId : ByteArray) (xItem : ByteArray) (xDay : Int) (xMonths : Int) (xFee : Int) (w : World) (hsId : xId.size ≤ maxLen) (hsItem : xItem.size ≤ maxLen) (ht : Tab w) :
    Calls Tryd.prog 7 #[.agg #[.string xId, .string xItem, .int .i64 xDay, .int .i64 xMonths, .int .i64 xFee]] w fun e w' => e = .returned (.bool true) ∧ Below w.heap.size w w' := by
  have HT := hid (ht.alloc (.cells [.string xId, .string xItem, .int .i64 xDay, .int .i64 xMonths, .int .i64 xFee].toArray 51))
  have HH := hid (HasC.new w [.string xId, .string xItem, .int .i64 xDay, .int .i64 xMonths, .int .i64 xFee] 51)
  have HB := hid (below_alloc w (.cells [.string xId, .string xItem, .int .i64 xDay, .int .i64 xMonths, .int .i64 xFee].toArray 51))
  clear ht
  go_enter Tryd.func7, Tryd.ntmps7
  go_wp2_with fail
  refine (szRental_ok xId xItem xDay xMonths xFee _ _ hsId hsItem (by omega) (by omega)).mono ?_
  rintro e w1 ⟨⟨z, rfl⟩, hb⟩
  have H1 := hid (HH.out.below hb)
  have T1 := hid (HT.out.below hb)
  have B1 := hid (below_trans HB.out hb)
  have c0 := H1.out.2 0 _ rfl
  have c1 := H1.out.2 1 _ rfl
  have c2 := H1.out.2 2 _ rfl
  have c3 := H1.out.2 3 _ rfl
  have c4 := H1.out.2 4 _ rfl
  clear hb HT HH HB
  go_wp2_with fail
  · go_ret
    exact ⟨rfl, B1.out⟩
  refine (toRental_ok xId xItem xDay xMonths xFee _).mono ?_
  rintro e w2 ⟨rfl, hb⟩
  have H2 := hid (H1.out.below hb)
  have T2 := hid (T1.out.below hb)
  have B2 := hid (below_trans B1.out hb)
  clear hb H1 T1 B1 c0 c1 c2 c3 c4
  go_wp2_with fail
  refine (specRentalText_ok xId xItem xDay xMonths xFee _ hsId hsItem).mono ?_
  rintro e w3 ⟨rfl, hb⟩
  have H3 := hid (H2.out.below hb)
  have T3 := hid (T2.out.below hb)
  have B3 := hid (below_trans B2.out hb)
  have c0 := H3.out.2 0 _ rfl
  have c1 := H3.out.2 1 _ rfl
  have c2 := H3.out.2 2 _ rfl
  have c3 := H3.out.2 3 _ rfl
  have c4 := H3.out.2 4 _ rfl
  clear hb H2 T2 B2
  go_wp2_with fail
  refine (toRental_ok xId xItem xDay xMonths xFee _).mono ?_
  rintro e w4 ⟨rfl, hb⟩
  have T4 := hid (T3.out.below hb)
  have B4 := hid (below_trans B3.out hb)
  clear hb H3 T3 B3 c0 c1 c2 c3 c4
  go_wp2_with fail
  refine (RentalText_ok xId xItem xDay xMonths xFee _ hsId hsItem T4.out).mono ?_
  rintro e w5 ⟨rfl, hb⟩
  have B5 := hid (below_trans B4.out hb)
  clear hb T4 B4
  go_wp2_with fail
  go_ret
  exact ⟨by simp, B5.out⟩

end Go.Proofs.YtdjobekjfggndabDoor
