/- PegText and its reference. -/
import Derived.Test.YtdjobekjfggndaaDoorDec
import Derived.Test.YtdjobekjfggndaaDoorList
import Derived.Test.YtdjobekjfggndaaDoorKeep
import Derived.Test.YtdjobekjfggndaaDoorRange
namespace Go.Proofs.YtdjobekjfggndaaDoor
open Go.RowKit
set_option linter.unusedVariables false

def pegB (xId : ByteArray) (xThick : Int) (xLength : Int) (xTaper : Int) : Bool := nameB xId && (inB xThick 20 200 && (inB xLength 100 1000 && (inB xTaper 10 100)))

set_option maxRecDepth 100000 in
theorem pegValid_ok (xId : ByteArray) (xThick : Int) (xLength : Int) (xTaper : Int) (w : World) (hsId : xId.size ≤ maxLen) :
    Calls Tryd.prog 71 #[.agg #[.string xId, .int .i64 xThick, .int .i64 xLength, .int .i64 xTaper]] w fun e w' => e = .returned (.bool (pegB xId xThick xLength xTaper)) ∧ Below w.heap.size w w' := by
  go_enter Tryd.func71, Tryd.ntmps71
  go_wp2_with (first | (go_at_call 82; refine (IsName_ok _ _ (by assumption)).mono ?_; rintro e w' ⟨rfl, rfl⟩) | (go_at_call 101; refine (isHole_ok _ _).mono ?_; rintro e w' ⟨rfl, rfl⟩) | (go_at_call 84; refine (within_ok _ _ _ _).mono ?_; rintro e w' ⟨rfl, rfl⟩))
  all_goals (go_ret; exact ⟨ret_bool (by simp [pegB, *]), below_alloc _ _⟩)

set_option maxRecDepth 100000 in
theorem pegOne_ok (xId : ByteArray) (xThick : Int) (xLength : Int) (xTaper : Int) (b o : Nat) (w : World) (hsId : xId.size ≤ maxLen) (k0 : w.cell? ⟨b, o, none⟩ = some (.string xId)) (k1 : w.cell? ⟨b, o + 1, none⟩ = some (.int .i64 xThick)) (k2 : w.cell? ⟨b, o + 2, none⟩ = some (.int .i64 xLength)) (k3 : w.cell? ⟨b, o + 3, none⟩ = some (.int .i64 xTaper)) :
    Calls Tryd.prog 69 #[.pointer (some ⟨b, o, none⟩)] w fun e w' => e = .returned (.bool (pegB xId xThick xLength xTaper)) ∧ w = w' := by
  go_enter Tryd.func69, Tryd.ntmps69
  go_wp2_with (first | (go_at_call 78; refine (l01Name_ok _ _ (by assumption)).mono ?_; rintro e w' ⟨rfl, rfl⟩) | (go_at_call 100; refine (l12Hole_ok _ _).mono ?_; rintro e w' ⟨rfl, rfl⟩) | (go_at_call 80; refine (l00In_ok _ _ _ _).mono ?_; rintro e w' ⟨rfl, rfl⟩))
  all_goals (go_ret; exact ⟨ret_bool (by simp [pegB, *]), rfl⟩)

theorem pegB_bd {xId : ByteArray} {xThick xLength xTaper : Int} (h : pegB xId xThick xLength xTaper = true) : xId.size ≤ 10 ∧ 0 ≤ xThick ∧ xThick ≤ 10000000 ∧ 0 ≤ xLength ∧ xLength ≤ 10000000 ∧ 0 ≤ xTaper ∧ xTaper ≤ 10000000 := by
  simp only [pegB, Bool.and_eq_true, inB_iff] at h
  obtain ⟨a0, a1, a2, a3⟩ := h
  refine ⟨name_size a0, by omega, by omega, by omega, by omega, by omega, by omega⟩

/-- the text -/
def pegT (xId : ByteArray) (xThick : Int) (xLength : Int) (xTaper : Int) : ByteArray := xId ++ ⟨#[32]⟩ ++ listT [xThick, xLength, xTaper]

theorem first_intsPeg {w : World} {A : Option Addr} {ns : List Int} (h : IntsAt w A ns) : IntsAt w A ns := h
set_option maxHeartbeats 800000 in
set_option maxRecDepth 100000 in
theorem PegText_ok (xId : ByteArray) (xThick : Int) (xLength : Int) (xTaper : Int) (w : World) (hsId : xId.size ≤ maxLen) (ht : Tab w) :
    Calls Tryd.prog 39 #[.agg #[.string xId, .int .i64 xThick, .int .i64 xLength, .int .i64 xTaper]] w fun e w' => e = .returned (.string (orNo (pegB xId xThick xLength xTaper) (pegT xId xThick xLength xTaper))) ∧ Below w.heap.size w w' := by
  cases hv : pegB xId xThick xLength xTaper
  · go_enter Tryd.func39, Tryd.ntmps39
    go_wp2_with (go_at_call 71; refine (pegValid_ok _ _ _ _ _ hsId).mono ?_; rintro e w1 ⟨rfl, hb⟩)
    go_ret
    exact ⟨rfl, below_chain hb (Below.refl _ _)⟩
  · obtain ⟨zId, lThick, uThick, lLength, uLength, lTaper, uTaper⟩ := pegB_bd hv
    have HC0 := hid (HasC.new w [.string xId, .int .i64 xThick, .int .i64 xLength, .int .i64 xTaper] 68)
    have HT := hid (ht.alloc (.cells [.string xId, .int .i64 xThick, .int .i64 xLength, .int .i64 xTaper].toArray 68))
    have hsm := hid (show Small [xThick, xLength, xTaper] from ⟨by simp, by intro n hn; simp at hn; omega⟩)
    have hsz : (listT [xThick, xLength, xTaper]).size ≤ 1344 := listT_size hsm.out
    clear ht
    go_enter Tryd.func39, Tryd.ntmps39
    go_wp2_with (go_at_call 71; refine (pegValid_ok _ _ _ _ _ hsId).mono ?_; rintro e w1 ⟨rfl, hb⟩; have HC := hid (HC0.out.below hb); have k0 : w1.cell? ⟨w.heap.size, 0, none⟩ = some (.string xId) := HC.out.2 0 _ rfl; have k1 : w1.cell? ⟨w.heap.size, 1, none⟩ = some (.int .i64 xThick) := HC.out.2 1 _ rfl; have k2 : w1.cell? ⟨w.heap.size, 2, none⟩ = some (.int .i64 xLength) := HC.out.2 2 _ rfl; have k3 : w1.cell? ⟨w.heap.size, 3, none⟩ = some (.int .i64 xTaper) := HC.out.2 3 _ rfl; have hlt : w.heap.size < w1.heap.size := HC.out.1; have ht1 : Tab w1 := HT.out.below hb; clear HC HC0 HT)
    go_wp2_with (go_at_call 65; refine (named_ok _ _ _ [xThick, xLength, xTaper] _ zId (ht1.alloc _) (IntsAt.new w1 [xThick, xLength, xTaper] _) hsm.out).mono ?_; rintro e w2 ⟨rfl, hb2⟩)
    go_ret
    exact ⟨by simp [pegT, orNo], below_chain hb (below_trans (below_alloc _ _) hb2)⟩

set_option maxHeartbeats 800000 in
set_option maxRecDepth 100000 in
theorem pegSText_ok (xId : ByteArray) (xThick : Int) (xLength : Int) (xTaper : Int) (b o : Nat) (w : World) (hv : pegB xId xThick xLength xTaper = true) (hlt : b < w.heap.size) (k0 : w.cell? ⟨b, o, none⟩ = some (.string xId)) (k1 : w.cell? ⟨b, o + 1, none⟩ = some (.int .i64 xThick)) (k2 : w.cell? ⟨b, o + 2, none⟩ = some (.int .i64 xLength)) (k3 : w.cell? ⟨b, o + 3, none⟩ = some (.int .i64 xTaper)) :
    Calls Tryd.prog 70 #[.pointer (some ⟨b, o, none⟩)] w fun e w' => e = .returned (.string (pegT xId xThick xLength xTaper)) ∧ Below w.heap.size w w' := by
  · obtain ⟨zId, lThick, uThick, lLength, uLength, lTaper, uTaper⟩ := pegB_bd hv
    have hsm := hid (show Small [xThick, xLength, xTaper] from ⟨by simp, by intro n hn; simp at hn; omega⟩)
    have hsz : (listT [xThick, xLength, xTaper]).size ≤ 1344 := listT_size hsm.out
    have g1 : ¬ 9223372036854775807 < xId.size + 1 := by omega
    have g2 : ¬ 9223372036854775807 < xId.size + 1 + (listT [xThick, xLength, xTaper]).size := by omega
    clear hv
    go_enter Tryd.func70, Tryd.ntmps70
    go_wp2_with fail
    go_region_held3 (fun w' => (True ∧ Below w.heap.size w w') ∧ w'.cell? ⟨b, o, none⟩ = some (.string xId) ∧ w'.cell? ⟨b, o + 1, none⟩ = some (.int .i64 xThick) ∧ w'.cell? ⟨b, o + 2, none⟩ = some (.int .i64 xLength) ∧ w'.cell? ⟨b, o + 3, none⟩ = some (.int .i64 xTaper))
      (first | exact ⟨⟨trivial, (Below.refl _ _).drew⟩, k0, k1, k2, k3⟩ | exact keepN4 hlt ‹_ ∧ _› (below_alloc _ _) | exact keepN4 hlt ‹_ ∧ _› ‹Below _ _ _›)
      (first | (go_at_call 96; refine (l01List_ok _ _ [xThick, xLength, xTaper] _ (first_intsPeg (by first | exact IntsAt.new _ [xThick, xLength, xTaper] _ | exact (IntsAt.new _ [xThick, xLength, xTaper] _).drew)) hsm.out (by intro n hn; simp at hn; omega)).mono ?_; rintro e w2 ⟨rfl, hb2⟩))
    go_wp2_with fail
    go_ret
    obtain ⟨⟨_, hB⟩, _⟩ := ‹(_ ∧ Below _ _ _) ∧ _›
    exact ⟨by simp [pegT], hB⟩

theorem specPegText_ok (xId : ByteArray) (xThick : Int) (xLength : Int) (xTaper : Int) (w : World) (hsId : xId.size ≤ maxLen) :
    Calls Tryd.prog 37 #[.agg #[.string xId, .int .i64 xThick, .int .i64 xLength, .int .i64 xTaper]] w fun e w' => e = .returned (.string (orNo (pegB xId xThick xLength xTaper) (pegT xId xThick xLength xTaper))) ∧ Below w.heap.size w w' := by
  cases hv : pegB xId xThick xLength xTaper
  · go_enter Tryd.func37, Tryd.ntmps37
    go_wp2_with (go_at_call 69; refine (pegOne_ok xId xThick xLength xTaper _ _ _ hsId (by simp) (by simp) (by simp) (by simp)).mono ?_; rintro e w1 ⟨rfl, rfl⟩)
    go_ret
    exact ⟨rfl, below_alloc _ _⟩
  · have HV := hid hv
    go_enter Tryd.func37, Tryd.ntmps37
    go_wp2_with (first | (go_at_call 69; refine (pegOne_ok xId xThick xLength xTaper _ _ _ hsId (by simp) (by simp) (by simp) (by simp)).mono ?_; rintro e w1 ⟨rfl, rfl⟩) | (go_at_call 70; refine (pegSText_ok xId xThick xLength xTaper _ _ _ HV.out (by simp) (by simp) (by simp) (by simp) (by simp)).mono ?_; rintro e w1 ⟨rfl, hb1⟩))
    go_ret
    exact ⟨by simp [orNo], below_chain hb1 (Below.refl _ _)⟩

theorem toPeg_ok (xId : ByteArray) (xThick : Int) (xLength : Int) (xTaper : Int) (w : World) :
    Calls Tryd.prog 38 #[.agg #[.string xId, .int .i64 xThick, .int .i64 xLength, .int .i64 xTaper]] w fun e w' => e = .returned (.agg #[.string xId, .int .i64 xThick, .int .i64 xLength, .int .i64 xTaper]) ∧ Below w.heap.size w w' := by
  go_enter Tryd.func38, Tryd.ntmps38
  go_wp2_with fail
  exact bodyPost_ret (v := .agg #[.string xId, .int .i64 xThick, .int .i64 xLength, .int .i64 xTaper]) (by simp [results, Tryd.results38, go_sem]) rfl ⟨rfl, ((below_alloc _ _).alloc (by simp) _).alloc (by simp; omega) _⟩

theorem szPeg_ok (xId : ByteArray) (xThick : Int) (xLength : Int) (xTaper : Int) (l : Int) (w : World) (hsId : xId.size ≤ maxLen) (h0 : 0 ≤ l) (h1 : l ≤ 1048576) :
    Calls Tryd.prog 36 #[.agg #[.string xId, .int .i64 xThick, .int .i64 xLength, .int .i64 xTaper], .int .i64 l] w fun e w' => (∃ z : Int, e = .returned (.int .i64 z)) ∧ Below w.heap.size w w' := by
  unfold maxLen at hsId
  go_enter Tryd.func36, Tryd.ntmps36
  go_wp2_with fail
  all_goals (go_ret; exact ⟨⟨_, rfl⟩, below_alloc _ _⟩)

set_option maxHeartbeats 800000 in
theorem lawPeg_ok (xId : ByteArray) (xThick : Int) (xLength : Int) (xTaper : Int) (w : World) (hsId : xId.size ≤ maxLen) (ht : Tab w) :
    Calls Tryd.prog 9 #[.agg #[.string xId, .int .i64 xThick, .int .i64 xLength, .int .i64 xTaper]] w fun e w' => e = .returned (.bool true) ∧ Below w.heap.size w w' := by
  have HT := hid (ht.alloc (.cells [.string xId, .int .i64 xThick, .int .i64 xLength, .int .i64 xTaper].toArray 65))
  have HH := hid (HasC.new w [.string xId, .int .i64 xThick, .int .i64 xLength, .int .i64 xTaper] 65)
  have HB := hid (below_alloc w (.cells [.string xId, .int .i64 xThick, .int .i64 xLength, .int .i64 xTaper].toArray 65))
  clear ht
  go_enter Tryd.func9, Tryd.ntmps9
  go_wp2_with fail
  refine (szPeg_ok xId xThick xLength xTaper _ _ hsId (by omega) (by omega)).mono ?_
  rintro e w1 ⟨⟨z, rfl⟩, hb⟩
  have H1 := hid (HH.out.below hb)
  have T1 := hid (HT.out.below hb)
  have B1 := hid (below_trans HB.out hb)
  have c0 := H1.out.2 0 _ rfl
  have c1 := H1.out.2 1 _ rfl
  have c2 := H1.out.2 2 _ rfl
  have c3 := H1.out.2 3 _ rfl
  clear hb HT HH HB
  go_wp2_with fail
  · go_ret
    exact ⟨rfl, B1.out⟩
  refine (toPeg_ok xId xThick xLength xTaper _).mono ?_
  rintro e w2 ⟨rfl, hb⟩
  have H2 := hid (H1.out.below hb)
  have T2 := hid (T1.out.below hb)
  have B2 := hid (below_trans B1.out hb)
  clear hb H1 T1 B1 c0 c1 c2 c3
  go_wp2_with fail
  refine (specPegText_ok xId xThick xLength xTaper _ hsId).mono ?_
  rintro e w3 ⟨rfl, hb⟩
  have H3 := hid (H2.out.below hb)
  have T3 := hid (T2.out.below hb)
  have B3 := hid (below_trans B2.out hb)
  have c0 := H3.out.2 0 _ rfl
  have c1 := H3.out.2 1 _ rfl
  have c2 := H3.out.2 2 _ rfl
  have c3 := H3.out.2 3 _ rfl
  clear hb H2 T2 B2
  go_wp2_with fail
  refine (toPeg_ok xId xThick xLength xTaper _).mono ?_
  rintro e w4 ⟨rfl, hb⟩
  have T4 := hid (T3.out.below hb)
  have B4 := hid (below_trans B3.out hb)
  clear hb H3 T3 B3 c0 c1 c2 c3
  go_wp2_with fail
  refine (PegText_ok xId xThick xLength xTaper _ hsId T4.out).mono ?_
  rintro e w5 ⟨rfl, hb⟩
  have B5 := hid (below_trans B4.out hb)
  clear hb T4 B4
  go_wp2_with fail
  go_ret
  exact ⟨by simp, B5.out⟩

end Go.Proofs.YtdjobekjfggndaaDoor
