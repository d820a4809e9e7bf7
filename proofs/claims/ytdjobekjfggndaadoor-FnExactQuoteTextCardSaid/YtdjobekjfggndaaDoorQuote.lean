/- QuoteText and its reference. -/
import Derived.Test.YtdjobekjfggndaaDoorDec
import Derived.Test.YtdjobekjfggndaaDoorList
import Derived.Test.YtdjobekjfggndaaDoorKeep
import Derived.Test.YtdjobekjfggndaaDoorRange
namespace Go.Proofs.YtdjobekjfggndaaDoor
open Go.RowKit
set_option linter.unusedVariables false

def quoteB (xId : ByteArray) (xHours : Int) (xRate : Int) (xMaterial : Int) (xMargin : Int) : Bool := nameB xId && (inB xHours 0 1000 && (inB xRate 0 20000 && (inB xMaterial 0 10000000 && (inB xMargin 0 5000))))

set_option maxRecDepth 100000 in
theorem quoteValid_ok (xId : ByteArray) (xHours : Int) (xRate : Int) (xMaterial : Int) (xMargin : Int) (w : World) (hsId : xId.size ≤ maxLen) :
    Calls Tryd.prog 74 #[.agg #[.string xId, .int .i64 xHours, .int .i64 xRate, .int .i64 xMaterial, .int .i64 xMargin]] w fun e w' => e = .returned (.bool (quoteB xId xHours xRate xMaterial xMargin)) ∧ Below w.heap.size w w' := by
  go_enter Tryd.func74, Tryd.ntmps74
  go_wp2_with (first | (go_at_call 82; refine (IsName_ok _ _ (by assumption)).mono ?_; rintro e w' ⟨rfl, rfl⟩) | (go_at_call 84; refine (within_ok _ _ _ _).mono ?_; rintro e w' ⟨rfl, rfl⟩) | (go_at_call 93; refine (isMoney_ok _ _).mono ?_; rintro e w' ⟨rfl, rfl⟩))
  all_goals (go_ret; exact ⟨ret_bool (by simp [quoteB, *]), below_alloc _ _⟩)

set_option maxRecDepth 100000 in
theorem quoteOne_ok (xId : ByteArray) (xHours : Int) (xRate : Int) (xMaterial : Int) (xMargin : Int) (b o : Nat) (w : World) (hsId : xId.size ≤ maxLen) (k0 : w.cell? ⟨b, o, none⟩ = some (.string xId)) (k1 : w.cell? ⟨b, o + 1, none⟩ = some (.int .i64 xHours)) (k2 : w.cell? ⟨b, o + 2, none⟩ = some (.int .i64 xRate)) (k3 : w.cell? ⟨b, o + 3, none⟩ = some (.int .i64 xMaterial)) (k4 : w.cell? ⟨b, o + 4, none⟩ = some (.int .i64 xMargin)) :
    Calls Tryd.prog 72 #[.pointer (some ⟨b, o, none⟩)] w fun e w' => e = .returned (.bool (quoteB xId xHours xRate xMaterial xMargin)) ∧ w = w' := by
  go_enter Tryd.func72, Tryd.ntmps72
  go_wp2_with (first | (go_at_call 78; refine (l01Name_ok _ _ (by assumption)).mono ?_; rintro e w' ⟨rfl, rfl⟩) | (go_at_call 80; refine (l00In_ok _ _ _ _).mono ?_; rintro e w' ⟨rfl, rfl⟩) | (go_at_call 91; refine (l21Money_ok _ _).mono ?_; rintro e w' ⟨rfl, rfl⟩) | (go_at_call 102; refine (l24Margin_ok _ _).mono ?_; rintro e w' ⟨rfl, rfl⟩))
  all_goals (go_ret; exact ⟨ret_bool (by simp [quoteB, *]), rfl⟩)

theorem quoteB_bd {xId : ByteArray} {xHours xRate xMaterial xMargin : Int} (h : quoteB xId xHours xRate xMaterial xMargin = true) : xId.size ≤ 10 ∧ 0 ≤ xHours ∧ xHours ≤ 10000000 ∧ 0 ≤ xRate ∧ xRate ≤ 10000000 ∧ 0 ≤ xMaterial ∧ xMaterial ≤ 10000000 ∧ 0 ≤ xMargin ∧ xMargin ≤ 10000000 := by
  simp only [quoteB, Bool.and_eq_true, inB_iff] at h
  obtain ⟨a0, a1, a2, a3, a4⟩ := h
  refine ⟨name_size a0, by omega, by omega, by omega, by omega, by omega, by omega, by omega, by omega⟩

/-- the text -/
def quoteT (xId : ByteArray) (xHours : Int) (xRate : Int) (xMaterial : Int) (xMargin : Int) : ByteArray := xId ++ ⟨#[32]⟩ ++ listT [xHours, xRate, xMaterial, xMargin]

theorem first_intsQuote {w : World} {A : Option Addr} {ns : List Int} (h : IntsAt w A ns) : IntsAt w A ns := h
set_option maxHeartbeats 800000 in
set_option maxRecDepth 100000 in
theorem QuoteText_ok (xId : ByteArray) (xHours : Int) (xRate : Int) (xMaterial : Int) (xMargin : Int) (w : World) (hsId : xId.size ≤ maxLen) (ht : Tab w) :
    Calls Tryd.prog 43 #[.agg #[.string xId, .int .i64 xHours, .int .i64 xRate, .int .i64 xMaterial, .int .i64 xMargin]] w fun e w' => e = .returned (.string (orNo (quoteB xId xHours xRate xMaterial xMargin) (quoteT xId xHours xRate xMaterial xMargin))) ∧ Below w.heap.size w w' := by
  cases hv : quoteB xId xHours xRate xMaterial xMargin
  · go_enter Tryd.func43, Tryd.ntmps43
    go_wp2_with (go_at_call 74; refine (quoteValid_ok _ _ _ _ _ _ hsId).mono ?_; rintro e w1 ⟨rfl, hb⟩)
    go_ret
    exact ⟨rfl, below_chain hb (Below.refl _ _)⟩
  · obtain ⟨zId, lHours, uHours, lRate, uRate, lMaterial, uMaterial, lMargin, uMargin⟩ := quoteB_bd hv
    have HC0 := hid (HasC.new w [.string xId, .int .i64 xHours, .int .i64 xRate, .int .i64 xMaterial, .int .i64 xMargin] 75)
    have HT := hid (ht.alloc (.cells [.string xId, .int .i64 xHours, .int .i64 xRate, .int .i64 xMaterial, .int .i64 xMargin].toArray 75))
    have hsm := hid (show Small [xHours, xRate, xMaterial, xMargin] from ⟨by simp, by intro n hn; simp at hn; omega⟩)
    have hsz : (listT [xHours, xRate, xMaterial, xMargin]).size ≤ 1344 := listT_size hsm.out
    clear ht
    go_enter Tryd.func43, Tryd.ntmps43
    go_wp2_with (go_at_call 74; refine (quoteValid_ok _ _ _ _ _ _ hsId).mono ?_; rintro e w1 ⟨rfl, hb⟩; have HC := hid (HC0.out.below hb); have k0 : w1.cell? ⟨w.heap.size, 0, none⟩ = some (.string xId) := HC.out.2 0 _ rfl; have k1 : w1.cell? ⟨w.heap.size, 1, none⟩ = some (.int .i64 xHours) := HC.out.2 1 _ rfl; have k2 : w1.cell? ⟨w.heap.size, 2, none⟩ = some (.int .i64 xRate) := HC.out.2 2 _ rfl; have k3 : w1.cell? ⟨w.heap.size, 3, none⟩ = some (.int .i64 xMaterial) := HC.out.2 3 _ rfl; have k4 : w1.cell? ⟨w.heap.size, 4, none⟩ = some (.int .i64 xMargin) := HC.out.2 4 _ rfl; have hlt : w.heap.size < w1.heap.size := HC.out.1; have ht1 : Tab w1 := HT.out.below hb; clear HC HC0 HT)
    go_wp2_with (go_at_call 65; refine (named_ok _ _ _ [xHours, xRate, xMaterial, xMargin] _ zId (ht1.alloc _) (IntsAt.new w1 [xHours, xRate, xMaterial, xMargin] _) hsm.out).mono ?_; rintro e w2 ⟨rfl, hb2⟩)
    go_ret
    exact ⟨by simp [quoteT, orNo], below_chain hb (below_trans (below_alloc _ _) hb2)⟩

set_option maxHeartbeats 800000 in
set_option maxRecDepth 100000 in
theorem quoteSText_ok (xId : ByteArray) (xHours : Int) (xRate : Int) (xMaterial : Int) (xMargin : Int) (b o : Nat) (w : World) (hv : quoteB xId xHours xRate xMaterial xMargin = true) (hlt : b < w.heap.size) (k0 : w.cell? ⟨b, o, none⟩ = some (.string xId)) (k1 : w.cell? ⟨b, o + 1, none⟩ = some (.int .i64 xHours)) (k2 : w.cell? ⟨b, o + 2, none⟩ = some (.int .i64 xRate)) (k3 : w.cell? ⟨b, o + 3, none⟩ = some (.int .i64 xMaterial)) (k4 : w.cell? ⟨b, o + 4, none⟩ = some (.int .i64 xMargin)) :
    Calls Tryd.prog 73 #[.pointer (some ⟨b, o, none⟩)] w fun e w' => e = .returned (.string (quoteT xId xHours xRate xMaterial xMargin)) ∧ Below w.heap.size w w' := by
  · obtain ⟨zId, lHours, uHours, lRate, uRate, lMaterial, uMaterial, lMargin, uMargin⟩ := quoteB_bd hv
    have hsm := hid (show Small [xHours, xRate, xMaterial, xMargin] from ⟨by simp, by intro n hn; simp at hn; omega⟩)
    have hsz : (listT [xHours, xRate, xMaterial, xMargin]).size ≤ 1344 := listT_size hsm.out
    have g1 : ¬ 9223372036854775807 < xId.size + 1 := by omega
    have g2 : ¬ 9223372036854775807 < xId.size + 1 + (listT [xHours, xRate, xMaterial, xMargin]).size := by omega
    clear hv
    go_enter Tryd.func73, Tryd.ntmps73
    go_wp2_with fail
    go_region_held3 (fun w' => (True ∧ Below w.heap.size w w') ∧ w'.cell? ⟨b, o, none⟩ = some (.string xId) ∧ w'.cell? ⟨b, o + 1, none⟩ = some (.int .i64 xHours) ∧ w'.cell? ⟨b, o + 2, none⟩ = some (.int .i64 xRate) ∧ w'.cell? ⟨b, o + 3, none⟩ = some (.int .i64 xMaterial) ∧ w'.cell? ⟨b, o + 4, none⟩ = some (.int .i64 xMargin))
      (first | exact ⟨⟨trivial, (Below.refl _ _).drew⟩, k0, k1, k2, k3, k4⟩ | exact keepN5 hlt ‹_ ∧ _› (below_alloc _ _) | exact keepN5 hlt ‹_ ∧ _› ‹Below _ _ _›)
      (first | (go_at_call 96; refine (l01List_ok _ _ [xHours, xRate, xMaterial, xMargin] _ (first_intsQuote (by first | exact IntsAt.new _ [xHours, xRate, xMaterial, xMargin] _ | exact (IntsAt.new _ [xHours, xRate, xMaterial, xMargin] _).drew)) hsm.out (by intro n hn; simp at hn; omega)).mono ?_; rintro e w2 ⟨rfl, hb2⟩))
    go_wp2_with fail
    go_ret
    obtain ⟨⟨_, hB⟩, _⟩ := ‹(_ ∧ Below _ _ _) ∧ _›
    exact ⟨by simp [quoteT], hB⟩

theorem specQuoteText_ok (xId : ByteArray) (xHours : Int) (xRate : Int) (xMaterial : Int) (xMargin : Int) (w : World) (hsId : xId.size ≤ maxLen) :
    Calls Tryd.prog 41 #[.agg #[.string xId, .int .i64 xHours, .int .i64 xRate, .int .i64 xMaterial, .int .i64 xMargin]] w fun e w' => e = .returned (.string (orNo (quoteB xId xHours xRate xMaterial xMargin) (quoteT xId xHours xRate xMaterial xMargin))) ∧ Below w.heap.size w w' := by
  cases hv : quoteB xId xHours xRate xMaterial xMargin
  · go_enter Tryd.func41, Tryd.ntmps41
    go_wp2_with (go_at_call 72; refine (quoteOne_ok xId xHours xRate xMaterial xMargin _ _ _ hsId (by simp) (by simp) (by simp) (by simp) (by simp)).mono ?_; rintro e w1 ⟨rfl, rfl⟩)
    go_ret
    exact ⟨rfl, below_alloc _ _⟩
  · have HV := hid hv
    go_enter Tryd.func41, Tryd.ntmps41
    go_wp2_with (first | (go_at_call 72; refine (quoteOne_ok xId xHours xRate xMaterial xMargin _ _ _ hsId (by simp) (by simp) (by simp) (by simp) (by simp)).mono ?_; rintro e w1 ⟨rfl, rfl⟩) | (go_at_call 73; refine (quoteSText_ok xId xHours xRate xMaterial xMargin _ _ _ HV.out (by simp) (by simp) (by simp) (by simp) (by simp) (by simp)).mono ?_; rintro e w1 ⟨rfl, hb1⟩))
    go_ret
    exact ⟨by simp [orNo], below_chain hb1 (Below.refl _ _)⟩

theorem toQuote_ok (xId : ByteArray) (xHours : Int) (xRate : Int) (xMaterial : Int) (xMargin : Int) (w : World) :
    Calls Tryd.prog 42 #[.agg #[.string xId, .int .i64 xHours, .int .i64 xRate, .int .i64 xMaterial, .int .i64 xMargin]] w fun e w' => e = .returned (.agg #[.string xId, .int .i64 xHours, .int .i64 xRate, .int .i64 xMaterial, .int .i64 xMargin]) ∧ Below w.heap.size w w' := by
  go_enter Tryd.func42, Tryd.ntmps42
  go_wp2_with fail
  exact bodyPost_ret (v := .agg #[.string xId, .int .i64 xHours, .int .i64 xRate, .int .i64 xMaterial, .int .i64 xMargin]) (by simp [results, Tryd.results42, go_sem]) rfl ⟨rfl, ((below_alloc _ _).alloc (by simp) _).alloc (by simp; omega) _⟩

theorem szQuote_ok (xId : ByteArray) (xHours : Int) (xRate : Int) (xMaterial : Int) (xMargin : Int) (l : Int) (w : World) (hsId : xId.size ≤ maxLen) (h0 : 0 ≤ l) (h1 : l ≤ 1048576) :
    Calls Tryd.prog 40 #[.agg #[.string xId, .int .i64 xHours, .int .i64 xRate, .int .i64 xMaterial, .int .i64 xMargin], .int .i64 l] w fun e w' => (∃ z : Int, e = .returned (.int .i64 z)) ∧ Below w.heap.size w w' := by
  unfold maxLen at hsId
  go_enter Tryd.func40, Tryd.ntmps40
  go_wp2_with fail
  all_goals (go_ret; exact ⟨⟨_, rfl⟩, below_alloc _ _⟩)

set_option maxHeartbeats 800000 in
theorem lawQuote_ok (xId : ByteArray) (xHours : Int) (xRate : Int) (xMaterial : Int) (xMargin : Int) (w : World) (hsId : xId.size ≤ maxLen) (ht : Tab w) :
    Calls Tryd.prog 10 #[.agg #[.string xId, .int .i64 xHours, .int .i64 xRate, .int .i64 xMaterial, .int .i64 xMargin]] w fun e w' => e = .returned (.bool true) ∧ Below w.heap.size w w' := by
  have HT := hid (ht.alloc (.cells [.string xId, .int .i64 xHours, .int .i64 xRate, .int .i64 xMaterial, .int .i64 xMargin].toArray 72))
  have HH := hid (HasC.new w [.string xId, .int .i64 xHours, .int .i64 xRate, .int .i64 xMaterial, .int .i64 xMargin] 72)
  have HB := hid (below_alloc w (.cells [.string xId, .int .i64 xHours, .int .i64 xRate, .int .i64 xMaterial, .int .i64 xMargin].toArray 72))
  clear ht
  go_enter Tryd.func10, Tryd.ntmps10
  go_wp2_with fail
  refine (szQuote_ok xId xHours xRate xMaterial xMargin _ _ hsId (by omega) (by omega)).mono ?_
  rintro e w1 ⟨⟨z, rfl⟩, hb⟩
  have H1 := hid (HH.out.below hb)
  have T1 := hid (HT.out.below hb)
  have B1 := hid (below_trans HB.out hb)
  have c0 := H1.out.2 0 _ rfl
  have c1 := H1.out.2 1 _ rfl
  have c2 := H1.out.2 2 _ rfl
  have c3 := H1.out.2 3 _ rfl
  have c4 := H1.out.2 4 _ rfl
  clear hb HT HH HB
  go_wp2_with fail
  · go_ret
    exact ⟨rfl, B1.out⟩
  refine (toQuote_ok xId xHours xRate xMaterial xMargin _).mono ?_
  rintro e w2 ⟨rfl, hb⟩
  have H2 := hid (H1.out.below hb)
  have T2 := hid (T1.out.below hb)
  have B2 := hid (below_trans B1.out hb)
  clear hb H1 T1 B1 c0 c1 c2 c3 c4
  go_wp2_with fail
  refine (specQuoteText_ok xId xHours xRate xMaterial xMargin _ hsId).mono ?_
  rintro e w3 ⟨rfl, hb⟩
  have H3 := hid (H2.out.below hb)
  have T3 := hid (T2.out.below hb)
  have B3 := hid (below_trans B2.out hb)
  have c0 := H3.out.2 0 _ rfl
  have c1 := H3.out.2 1 _ rfl
  have c2 := H3.out.2 2 _ rfl
  have c3 := H3.out.2 3 _ rfl
  have c4 := H3.out.2 4 _ rfl
  clear hb H2 T2 B2
  go_wp2_with fail
  refine (toQuote_ok xId xHours xRate xMaterial xMargin _).mono ?_
  rintro e w4 ⟨rfl, hb⟩
  have T4 := hid (T3.out.below hb)
  have B4 := hid (below_trans B3.out hb)
  clear hb H3 T3 B3 c0 c1 c2 c3 c4
  go_wp2_with fail
  refine (QuoteText_ok xId xHours xRate xMaterial xMargin _ hsId T4.out).mono ?_
  rintro e w5 ⟨rfl, hb⟩
  have B5 := hid (below_trans B4.out hb)
  clear hb T4 B4
  go_wp2_with fail
  go_ret
  exact ⟨by simp, B5.out⟩

end Go.Proofs.YtdjobekjfggndaaDoor
