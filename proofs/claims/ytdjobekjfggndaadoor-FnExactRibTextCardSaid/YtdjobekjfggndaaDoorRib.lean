/- RibText and its reference. -/
import Derived.Test.YtdjobekjfggndaaDoorDec
import Derived.Test.YtdjobekjfggndaaDoorList
import Derived.Test.YtdjobekjfggndaaDoorKeep
import Derived.Test.YtdjobekjfggndaaDoorRange
namespace Go.Proofs.YtdjobekjfggndaaDoor
open Go.RowKit
set_option linter.unusedVariables false

def ribB (xId : ByteArray) (xLength : Int) (xHeight : Int) : Bool := nameB xId && (inB xLength 1 10000 && (inB xHeight 1 10000))

set_option maxRecDepth 100000 in
theorem ribValid_ok (xId : ByteArray) (xLength : Int) (xHeight : Int) (w : World) (hsId : xId.size ≤ maxLen) :
    Calls Tryd.prog 64 #[.agg #[.string xId, .int .i64 xLength, .int .i64 xHeight]] w fun e w' => e = .returned (.bool (ribB xId xLength xHeight)) ∧ Below w.heap.size w w' := by
  go_enter Tryd.func64, Tryd.ntmps64
  go_wp2_with (first | (go_at_call 82; refine (IsName_ok _ _ (by assumption)).mono ?_; rintro e w' ⟨rfl, rfl⟩) | (go_at_call 84; refine (within_ok _ _ _ _).mono ?_; rintro e w' ⟨rfl, rfl⟩))
  all_goals (go_ret; exact ⟨ret_bool (by simp [ribB, *]), below_alloc _ _⟩)

set_option maxRecDepth 100000 in
theorem ribOne_ok (xId : ByteArray) (xLength : Int) (xHeight : Int) (b o : Nat) (w : World) (hsId : xId.size ≤ maxLen) (k0 : w.cell? ⟨b, o, none⟩ = some (.string xId)) (k1 : w.cell? ⟨b, o + 1, none⟩ = some (.int .i64 xLength)) (k2 : w.cell? ⟨b, o + 2, none⟩ = some (.int .i64 xHeight)) :
    Calls Tryd.prog 62 #[.pointer (some ⟨b, o, none⟩)] w fun e w' => e = .returned (.bool (ribB xId xLength xHeight)) ∧ w = w' := by
  go_enter Tryd.func62, Tryd.ntmps62
  go_wp2_with (first | (go_at_call 78; refine (l01Name_ok _ _ (by assumption)).mono ?_; rintro e w' ⟨rfl, rfl⟩) | (go_at_call 95; refine (l06Size_ok _ _).mono ?_; rintro e w' ⟨rfl, rfl⟩))
  all_goals (go_ret; exact ⟨ret_bool (by simp [ribB, *]), rfl⟩)

theorem ribB_bd {xId : ByteArray} {xLength xHeight : Int} (h : ribB xId xLength xHeight = true) : xId.size ≤ 10 ∧ 0 ≤ xLength ∧ xLength ≤ 10000000 ∧ 0 ≤ xHeight ∧ xHeight ≤ 10000000 := by
  simp only [ribB, Bool.and_eq_true, inB_iff] at h
  obtain ⟨a0, a1, a2⟩ := h
  refine ⟨name_size a0, by omega, by omega, by omega, by omega⟩

/-- the text -/
def ribT (xId : ByteArray) (xLength : Int) (xHeight : Int) : ByteArray := xId ++ ⟨#[32]⟩ ++ listT [xLength, xHeight]

theorem first_intsRib {w : World} {A : Option Addr} {ns : List Int} (h : IntsAt w A ns) : IntsAt w A ns := h
set_option maxHeartbeats 800000 in
set_option maxRecDepth 100000 in
theorem RibText_ok (xId : ByteArray) (xLength : Int) (xHeight : Int) (w : World) (hsId : xId.size ≤ maxLen) (ht : Tab w) :
    Calls Tryd.prog 31 #[.agg #[.string xId, .int .i64 xLength, .int .i64 xHeight]] w fun e w' => e = .returned (.string (orNo (ribB xId xLength xHeight) (ribT xId xLength xHeight))) ∧ Below w.heap.size w w' := by
  cases hv : ribB xId xLength xHeight
  · go_enter Tryd.func31, Tryd.ntmps31
    go_wp2_with (go_at_call 64; refine (ribValid_ok _ _ _ _ hsId).mono ?_; rintro e w1 ⟨rfl, hb⟩)
    go_ret
    exact ⟨rfl, below_chain hb (Below.refl _ _)⟩
  · obtain ⟨zId, lLength, uLength, lHeight, uHeight⟩ := ribB_bd hv
    have HC0 := hid (HasC.new w [.string xId, .int .i64 xLength, .int .i64 xHeight] 54)
    have HT := hid (ht.alloc (.cells [.string xId, .int .i64 xLength, .int .i64 xHeight].toArray 54))
    have hsm := hid (show Small [xLength, xHeight] from ⟨by simp, by intro n hn; simp at hn; omega⟩)
    have hsz : (listT [xLength, xHeight]).size ≤ 1344 := listT_size hsm.out
    clear ht
    go_enter Tryd.func31, Tryd.ntmps31
    go_wp2_with (go_at_call 64; refine (ribValid_ok _ _ _ _ hsId).mono ?_; rintro e w1 ⟨rfl, hb⟩; have HC := hid (HC0.out.below hb); have k0 : w1.cell? ⟨w.heap.size, 0, none⟩ = some (.string xId) := HC.out.2 0 _ rfl; have k1 : w1.cell? ⟨w.heap.size, 1, none⟩ = some (.int .i64 xLength) := HC.out.2 1 _ rfl; have k2 : w1.cell? ⟨w.heap.size, 2, none⟩ = some (.int .i64 xHeight) := HC.out.2 2 _ rfl; have hlt : w.heap.size < w1.heap.size := HC.out.1; have ht1 : Tab w1 := HT.out.below hb; clear HC HC0 HT)
    go_wp2_with (go_at_call 65; refine (named_ok _ _ _ [xLength, xHeight] _ zId (ht1.alloc _) (IntsAt.new w1 [xLength, xHeight] _) hsm.out).mono ?_; rintro e w2 ⟨rfl, hb2⟩)
    go_ret
    exact ⟨by simp [ribT, orNo], below_chain hb (below_trans (below_alloc _ _) hb2)⟩

set_option maxHeartbeats 800000 in
set_option maxRecDepth 100000 in
theorem ribSText_ok (xId : ByteArray) (xLength : Int) (xHeight : Int) (b o : Nat) (w : World) (hv : ribB xId xLength xHeight = true) (hlt : b < w.heap.size) (k0 : w.cell? ⟨b, o, none⟩ = some (.string xId)) (k1 : w.cell? ⟨b, o + 1, none⟩ = some (.int .i64 xLength)) (k2 : w.cell? ⟨b, o + 2, none⟩ = some (.int .i64 xHeight)) :
    Calls Tryd.prog 63 #[.pointer (some ⟨b, o, none⟩)] w fun e w' => e = .returned (.string (ribT xId xLength xHeight)) ∧ Below w.heap.size w w' := by
  · obtain ⟨zId, lLength, uLength, lHeight, uHeight⟩ := ribB_bd hv
    have hsm := hid (show Small [xLength, xHeight] from ⟨by simp, by intro n hn; simp at hn; omega⟩)
    have hsz : (listT [xLength, xHeight]).size ≤ 1344 := listT_size hsm.out
    have g1 : ¬ 9223372036854775807 < xId.size + 1 := by omega
    have g2 : ¬ 9223372036854775807 < xId.size + 1 + (listT [xLength, xHeight]).size := by omega
    clear hv
    go_enter Tryd.func63, Tryd.ntmps63
    go_wp2_with fail
    go_region_held3 (fun w' => (True ∧ Below w.heap.size w w') ∧ w'.cell? ⟨b, o, none⟩ = some (.string xId) ∧ w'.cell? ⟨b, o + 1, none⟩ = some (.int .i64 xLength) ∧ w'.cell? ⟨b, o + 2, none⟩ = some (.int .i64 xHeight))
      (first | exact ⟨⟨trivial, (Below.refl _ _).drew⟩, k0, k1, k2⟩ | exact keepN3 hlt ‹_ ∧ _› (below_alloc _ _) | exact keepN3 hlt ‹_ ∧ _› ‹Below _ _ _›)
      (first | (go_at_call 96; refine (l01List_ok _ _ [xLength, xHeight] _ (first_intsRib (by first | exact IntsAt.new _ [xLength, xHeight] _ | exact (IntsAt.new _ [xLength, xHeight] _).drew)) hsm.out (by intro n hn; simp at hn; omega)).mono ?_; rintro e w2 ⟨rfl, hb2⟩))
    go_wp2_with fail
    go_ret
    obtain ⟨⟨_, hB⟩, _⟩ := ‹(_ ∧ Below _ _ _) ∧ _›
    exact ⟨by simp [ribT], hB⟩

theorem specRibText_ok (xId : ByteArray) (xLength : Int) (xHeight : Int) (w : World) (hsId : xId.size ≤ maxLen) :
    Calls Tryd.prog 29 #[.agg #[.string xId, .int .i64 xLength, .int .i64 xHeight]] w fun e w' => e = .returned (.string (orNo (ribB xId xLength xHeight) (ribT xId xLength xHeight))) ∧ Below w.heap.size w w' := by
  cases hv : ribB xId xLength xHeight
  · go_enter Tryd.func29, Tryd.ntmps29
    go_wp2_with (go_at_call 62; refine (ribOne_ok xId xLength xHeight _ _ _ hsId (by simp) (by simp) (by simp)).mono ?_; rintro e w1 ⟨rfl, rfl⟩)
    go_ret
    exact ⟨rfl, below_alloc _ _⟩
  · have HV := hid hv
    go_enter Tryd.func29, Tryd.ntmps29
    go_wp2_with (first | (go_at_call 62; refine (ribOne_ok xId xLength xHeight _ _ _ hsId (by simp) (by simp) (by simp)).mono ?_; rintro e w1 ⟨rfl, rfl⟩) | (go_at_call 63; refine (ribSText_ok xId xLength xHeight _ _ _ HV.out (by simp) (by simp) (by simp) (by simp)).mono ?_; rintro e w1 ⟨rfl, hb1⟩))
    go_ret
    exact ⟨by simp [orNo], below_chain hb1 (Below.refl _ _)⟩

theorem toRib_ok (xId : ByteArray) (xLength : Int) (xHeight : Int) (w : World) :
    Calls Tryd.prog 30 #[.agg #[.string xId, .int .i64 xLength, .int .i64 xHeight]] w fun e w' => e = .returned (.agg #[.string xId, .int .i64 xLength, .int .i64 xHeight]) ∧ Below w.heap.size w w' := by
  go_enter Tryd.func30, Tryd.ntmps30
  go_wp2_with fail
  exact bodyPost_ret (v := .agg #[.string xId, .int .i64 xLength, .int .i64 xHeight]) (by simp [results, Tryd.results30, go_sem]) rfl ⟨rfl, ((below_alloc _ _).alloc (by simp) _).alloc (by simp; omega) _⟩

theorem szRib_ok (xId : ByteArray) (xLength : Int) (xHeight : Int) (l : Int) (w : World) (hsId : xId.size ≤ maxLen) (h0 : 0 ≤ l) (h1 : l ≤ 1048576) :
    Calls Tryd.prog 28 #[.agg #[.string xId, .int .i64 xLength, .int .i64 xHeight], .int .i64 l] w fun e w' => (∃ z : Int, e = .returned (.int .i64 z)) ∧ Below w.heap.size w w' := by
  unfold maxLen at hsId
  go_enter Tryd.func28, Tryd.ntmps28
  go_wp2_with fail
  all_goals (go_ret; exact ⟨⟨_, rfl⟩, below_alloc _ _⟩)

set_option maxHeartbeats 800000 in
theorem lawRib_ok (xId : ByteArray) (xLength : Int) (xHeight : Int) (w : World) (hsId : xId.size ≤ maxLen) (ht : Tab w) :
    Calls Tryd.prog 7 #[.agg #[.string xId, .int .i64 xLength, .int .i64 xHeight]] w fun e w' => e = .returned (.bool true) ∧ Below w.heap.size w w' := by
  have HT := hid (ht.alloc (.cells [.string xId, .int .i64 xLength, .int .i64 xHeight].toArray 51))
  have HH := hid (HasC.new w [.string xId, .int .i64 xLength, .int .i64 xHeight] 51)
  have HB := hid (below_alloc w (.cells [.string xId, .int .i64 xLength, .int .i64 xHeight].toArray 51))
  clear ht
  go_enter Tryd.func7, Tryd.ntmps7
  go_wp2_with fail
  refine (szRib_ok xId xLength xHeight _ _ hsId (by omega) (by omega)).mono ?_
  rintro e w1 ⟨⟨z, rfl⟩, hb⟩
  have H1 := hid (HH.out.below hb)
  have T1 := hid (HT.out.below hb)
  have B1 := hid (below_trans HB.out hb)
  have c0 := H1.out.2 0 _ rfl
  have c1 := H1.out.2 1 _ rfl
  have c2 := H1.out.2 2 _ rfl
  clear hb HT HH HB
  go_wp2_with fail
  · go_ret
    exact ⟨rfl, B1.out⟩
  refine (toRib_ok xId xLength xHeight _).mono ?_
  rintro e w2 ⟨rfl, hb⟩
  have H2 := hid (H1.out.below hb)
  have T2 := hid (T1.out.below hb)
  have B2 := hid (below_trans B1.out hb)
  clear hb H1 T1 B1 c0 c1 c2
  go_wp2_with fail
  refine (specRibText_ok xId xLength xHeight _ hsId).mono ?_
  rintro e w3 ⟨rfl, hb⟩
  have H3 := hid (H2.out.below hb)
  have T3 := hid (T2.out.below hb)
  have B3 := hid (below_trans B2.out hb)
  have c0 := H3.out.2 0 _ rfl
  have c1 := H3.out.2 1 _ rfl
  have c2 := H3.out.2 2 _ rfl
  clear hb H2 T2 B2
  go_wp2_with fail
  refine (toRib_ok xId xLength xHeight _).mono ?_
  rintro e w4 ⟨rfl, hb⟩
  have T4 := hid (T3.out.below hb)
  have B4 := hid (below_trans B3.out hb)
  clear hb H3 T3 B3 c0 c1 c2
  go_wp2_with fail
  refine (RibText_ok xId xLength xHeight _ hsId T4.out).mono ?_
  rintro e w5 ⟨rfl, hb⟩
  have B5 := hid (below_trans B4.out hb)
  clear hb T4 B4
  go_wp2_with fail
  go_ret
  exact ⟨by simp, B5.out⟩

end Go.Proofs.YtdjobekjfggndaaDoor
