/- ModeText and its reference. -/
import Derived.Test.YtdjobekjfggndaaDoorDec
import Derived.Test.YtdjobekjfggndaaDoorList
import Derived.Test.YtdjobekjfggndaaDoorKeep
import Derived.Test.YtdjobekjfggndaaDoorRange
namespace Go.Proofs.YtdjobekjfggndaaDoor
open Go.RowKit
set_option linter.unusedVariables false

def modeB (xId : ByteArray) (xTone : Int) (xLoss : Int) : Bool := nameB xId && (inB xTone 1000 100000 && (inB xLoss 1 500))

set_option maxRecDepth 100000 in
theorem modeValid_ok (xId : ByteArray) (xTone : Int) (xLoss : Int) (w : World) (hsId : xId.size ≤ maxLen) :
    Calls Tryd.prog 68 #[.agg #[.string xId, .int .i64 xTone, .int .i64 xLoss]] w fun e w' => e = .returned (.bool (modeB xId xTone xLoss)) ∧ Below w.heap.size w w' := by
  go_enter Tryd.func68, Tryd.ntmps68
  go_wp2_with (first | (go_at_call 82; refine (IsName_ok _ _ (by assumption)).mono ?_; rintro e w' ⟨rfl, rfl⟩) | (go_at_call 99; refine (isTone_ok _ _).mono ?_; rintro e w' ⟨rfl, rfl⟩) | (go_at_call 84; refine (within_ok _ _ _ _).mono ?_; rintro e w' ⟨rfl, rfl⟩))
  all_goals (go_ret; exact ⟨ret_bool (by simp [modeB, *]), below_alloc _ _⟩)

set_option maxRecDepth 100000 in
theorem modeOne_ok (xId : ByteArray) (xTone : Int) (xLoss : Int) (b o : Nat) (w : World) (hsId : xId.size ≤ maxLen) (k0 : w.cell? ⟨b, o, none⟩ = some (.string xId)) (k1 : w.cell? ⟨b, o + 1, none⟩ = some (.int .i64 xTone)) (k2 : w.cell? ⟨b, o + 2, none⟩ = some (.int .i64 xLoss)) :
    Calls Tryd.prog 66 #[.pointer (some ⟨b, o, none⟩)] w fun e w' => e = .returned (.bool (modeB xId xTone xLoss)) ∧ w = w' := by
  go_enter Tryd.func66, Tryd.ntmps66
  go_wp2_with (first | (go_at_call 78; refine (l01Name_ok _ _ (by assumption)).mono ?_; rintro e w' ⟨rfl, rfl⟩) | (go_at_call 98; refine (l16Tone_ok _ _).mono ?_; rintro e w' ⟨rfl, rfl⟩) | (go_at_call 80; refine (l00In_ok _ _ _ _).mono ?_; rintro e w' ⟨rfl, rfl⟩))
  all_goals (go_ret; exact ⟨ret_bool (by simp [modeB, *]), rfl⟩)

theorem modeB_bd {xId : ByteArray} {xTone xLoss : Int} (h : modeB xId xTone xLoss = true) : xId.size ≤ 10 ∧ 0 ≤ xTone ∧ xTone ≤ 10000000 ∧ 0 ≤ xLoss ∧ xLoss ≤ 10000000 := by
  simp only [modeB, Bool.and_eq_true, inB_iff] at h
  obtain ⟨a0, a1, a2⟩ := h
  refine ⟨name_size a0, by omega, by omega, by omega, by omega⟩

/-- the text -/
def modeT (xId : ByteArray) (xTone : Int) (xLoss : Int) : ByteArray := xId ++ ⟨#[32]⟩ ++ listT [xTone, xLoss]

theorem first_intsMode {w : World} {A : Option Addr} {ns : List Int} (h : IntsAt w A ns) : IntsAt w A ns := h
set_option maxHeartbeats 800000 in
set_option maxRecDepth 100000 in
theorem ModeText_ok (xId : ByteArray) (xTone : Int) (xLoss : Int) (w : World) (hsId : xId.size ≤ maxLen) (ht : Tab w) :
    Calls Tryd.prog 35 #[.agg #[.string xId, .int .i64 xTone, .int .i64 xLoss]] w fun e w' => e = .returned (.string (orNo (modeB xId xTone xLoss) (modeT xId xTone xLoss))) ∧ Below w.heap.size w w' := by
  cases hv : modeB xId xTone xLoss
  · go_enter Tryd.func35, Tryd.ntmps35
    go_wp2_with (go_at_call 68; refine (modeValid_ok _ _ _ _ hsId).mono ?_; rintro e w1 ⟨rfl, hb⟩)
    go_ret
    exact ⟨rfl, below_chain hb (Below.refl _ _)⟩
  · obtain ⟨zId, lTone, uTone, lLoss, uLoss⟩ := modeB_bd hv
    have HC0 := hid (HasC.new w [.string xId, .int .i64 xTone, .int .i64 xLoss] 61)
    have HT := hid (ht.alloc (.cells [.string xId, .int .i64 xTone, .int .i64 xLoss].toArray 61))
    have hsm := hid (show Small [xTone, xLoss] from ⟨by simp, by intro n hn; simp at hn; omega⟩)
    have hsz : (listT [xTone, xLoss]).size ≤ 1344 := listT_size hsm.out
    clear ht
    go_enter Tryd.func35, Tryd.ntmps35
    go_wp2_with (go_at_call 68; refine (modeValid_ok _ _ _ _ hsId).mono ?_; rintro e w1 ⟨rfl, hb⟩; have HC := hid (HC0.out.below hb); have k0 : w1.cell? ⟨w.heap.size, 0, none⟩ = some (.string xId) := HC.out.2 0 _ rfl; have k1 : w1.cell? ⟨w.heap.size, 1, none⟩ = some (.int .i64 xTone) := HC.out.2 1 _ rfl; have k2 : w1.cell? ⟨w.heap.size, 2, none⟩ = some (.int .i64 xLoss) := HC.out.2 2 _ rfl; have hlt : w.heap.size < w1.heap.size := HC.out.1; have ht1 : Tab w1 := HT.out.below hb; clear HC HC0 HT)
    go_wp2_with (go_at_call 65; refine (named_ok _ _ _ [xTone, xLoss] _ zId (ht1.alloc _) (IntsAt.new w1 [xTone, xLoss] _) hsm.out).mono ?_; rintro e w2 ⟨rfl, hb2⟩)
    go_ret
    exact ⟨by simp [modeT, orNo], below_chain hb (below_trans (below_alloc _ _) hb2)⟩

set_option maxHeartbeats 800000 in
set_option maxRecDepth 100000 in
theorem modeSText_ok (xId : ByteArray) (xTone : Int) (xLoss : Int) (b o : Nat) (w : World) (hv : modeB xId xTone xLoss = true) (hlt : b < w.heap.size) (k0 : w.cell? ⟨b, o, none⟩ = some (.string xId)) (k1 : w.cell? ⟨b, o + 1, none⟩ = some (.int .i64 xTone)) (k2 : w.cell? ⟨b, o + 2, none⟩ = some (.int .i64 xLoss)) :
    Calls Tryd.prog 67 #[.pointer (some ⟨b, o, none⟩)] w fun e w' => e = .returned (.string (modeT xId xTone xLoss)) ∧ Below w.heap.size w w' := by
  · obtain ⟨zId, lTone, uTone, lLoss, uLoss⟩ := modeB_bd hv
    have hsm := hid (show Small [xTone, xLoss] from ⟨by simp, by intro n hn; simp at hn; omega⟩)
    have hsz : (listT [xTone, xLoss]).size ≤ 1344 := listT_size hsm.out
    have g1 : ¬ 9223372036854775807 < xId.size + 1 := by omega
    have g2 : ¬ 9223372036854775807 < xId.size + 1 + (listT [xTone, xLoss]).size := by omega
    clear hv
    go_enter Tryd.func67, Tryd.ntmps67
    go_wp2_with fail
    go_region_held3 (fun w' => (True ∧ Below w.heap.size w w') ∧ w'.cell? ⟨b, o, none⟩ = some (.string xId) ∧ w'.cell? ⟨b, o + 1, none⟩ = some (.int .i64 xTone) ∧ w'.cell? ⟨b, o + 2, none⟩ = some (.int .i64 xLoss))
      (first | exact ⟨⟨trivial, (Below.refl _ _).drew⟩, k0, k1, k2⟩ | exact keepN3 hlt ‹_ ∧ _› (below_alloc _ _) | exact keepN3 hlt ‹_ ∧ _› ‹Below _ _ _›)
      (first | (go_at_call 96; refine (l01List_ok _ _ [xTone, xLoss] _ (first_intsMode (by first | exact IntsAt.new _ [xTone, xLoss] _ | exact (IntsAt.new _ [xTone, xLoss] _).drew)) hsm.out (by intro n hn; simp at hn; omega)).mono ?_; rintro e w2 ⟨rfl, hb2⟩))
    go_wp2_with fail
    go_ret
    obtain ⟨⟨_, hB⟩, _⟩ := ‹(_ ∧ Below _ _ _) ∧ _›
    exact ⟨by simp [modeT], hB⟩

theorem specModeText_ok (xId : ByteArray) (xTone : Int) (xLoss : Int) (w : World) (hsId : xId.size ≤ maxLen) :
    Calls Tryd.prog 33 #[.agg #[.string xId, .int .i64 xTone, .int .i64 xLoss]] w fun e w' => e = .returned (.string (orNo (modeB xId xTone xLoss) (modeT xId xTone xLoss))) ∧ Below w.heap.size w w' := by
  cases hv : modeB xId xTone xLoss
  · go_enter Tryd.func33, Tryd.ntmps33
    go_wp2_with (go_at_call 66; refine (modeOne_ok xId xTone xLoss _ _ _ hsId (by simp) (by simp) (by simp)).mono ?_; rintro e w1 ⟨rfl, rfl⟩)
    go_ret
    exact ⟨rfl, below_alloc _ _⟩
  · have HV := hid hv
    go_enter Tryd.func33, Tryd.ntmps33
    go_wp2_with (first | (go_at_call 66; refine (modeOne_ok xId xTone xLoss _ _ _ hsId (by simp) (by simp) (by simp)).mono ?_; rintro e w1 ⟨rfl, rfl⟩) | (go_at_call 67; refine (modeSText_ok xId xTone xLoss _ _ _ HV.out (by simp) (by simp) (by simp) (by simp)).mono ?_; rintro e w1 ⟨rfl, hb1⟩))
    go_ret
    exact ⟨by simp [orNo], below_chain hb1 (Below.refl _ _)⟩

theorem toMode_ok (xId : ByteArray) (xTone : Int) (xLoss : Int) (w : World) :
    Calls Tryd.prog 34 #[.agg #[.string xId, .int .i64 xTone, .int .i64 xLoss]] w fun e w' => e = .returned (.agg #[.string xId, .int .i64 xTone, .int .i64 xLoss]) ∧ Below w.heap.size w w' := by
  go_enter Tryd.func34, Tryd.ntmps34
  go_wp2_with fail
  exact bodyPost_ret (v := .agg #[.string xId, .int .i64 xTone, .int .i64 xLoss]) (by simp [results, Tryd.results34, go_sem]) rfl ⟨rfl, ((below_alloc _ _).alloc (by simp) _).alloc (by simp; omega) _⟩

theorem szMode_ok (xId : ByteArray) (xTone : Int) (xLoss : Int) (l : Int) (w : World) (hsId : xId.size ≤ maxLen) (h0 : 0 ≤ l) (h1 : l ≤ 1048576) :
    Calls Tryd.prog 32 #[.agg #[.string xId, .int .i64 xTone, .int .i64 xLoss], .int .i64 l] w fun e w' => (∃ z : Int, e = .returned (.int .i64 z)) ∧ Below w.heap.size w w' := by
  unfold maxLen at hsId
  go_enter Tryd.func32, Tryd.ntmps32
  go_wp2_with fail
  all_goals (go_ret; exact ⟨⟨_, rfl⟩, below_alloc _ _⟩)

set_option maxHeartbeats 800000 in
theorem lawMode_ok (xId : ByteArray) (xTone : Int) (xLoss : Int) (w : World) (hsId : xId.size ≤ maxLen) (ht : Tab w) :
    Calls Tryd.prog 8 #[.agg #[.string xId, .int .i64 xTone, .int .i64 xLoss]] w fun e w' => e = .returned (.bool true) ∧ Below w.heap.size w w' := by
  have HT := hid (ht.alloc (.cells [.string xId, .int .i64 xTone, .int .i64 xLoss].toArray 58))
  have HH := hid (HasC.new w [.string xId, .int .i64 xTone, .int .i64 xLoss] 58)
  have HB := hid (below_alloc w (.cells [.string xId, .int .i64 xTone, .int .i64 xLoss].toArray 58))
  clear ht
  go_enter Tryd.func8, Tryd.ntmps8
  go_wp2_with fail
  refine (szMode_ok xId xTone xLoss _ _ hsId (by omega) (by omega)).mono ?_
  rintro e w1 ⟨⟨z, rfl⟩, hb⟩
  have H1 := hid (HH.out.below hb)
  have T1 := hid (HT.out.below hb)
  have B1 := hid (below_trans HB.out hb)
  have c0 := H1.out.2 0 _ rfl
  have c1 := H1.out.2 1 _ rfl
  have c2 := H1.out.2 2 _ rfl
  clear hb HT HH HB
  go_wp2_with fail
  · go_ret
    exact ⟨rfl, B1.out⟩
  refine (toMode_ok xId xTone xLoss _).mono ?_
  rintro e w2 ⟨rfl, hb⟩
  have H2 := hid (H1.out.below hb)
  have T2 := hid (T1.out.below hb)
  have B2 := hid (below_trans B1.out hb)
  clear hb H1 T1 B1 c0 c1 c2
  go_wp2_with fail
  refine (specModeText_ok xId xTone xLoss _ hsId).mono ?_
  rintro e w3 ⟨rfl, hb⟩
  have H3 := hid (H2.out.below hb)
  have T3 := hid (T2.out.below hb)
  have B3 := hid (below_trans B2.out hb)
  have c0 := H3.out.2 0 _ rfl
  have c1 := H3.out.2 1 _ rfl
  have c2 := H3.out.2 2 _ rfl
  clear hb H2 T2 B2
  go_wp2_with fail
  refine (toMode_ok xId xTone xLoss _).mono ?_
  rintro e w4 ⟨rfl, hb⟩
  have T4 := hid (T3.out.below hb)
  have B4 := hid (below_trans B3.out hb)
  clear hb H3 T3 B3 c0 c1 c2
  go_wp2_with fail
  refine (ModeText_ok xId xTone xLoss _ hsId T4.out).mono ?_
  rintro e w5 ⟨rfl, hb⟩
  have B5 := hid (below_trans B4.out hb)
  clear hb T4 B4
  go_wp2_with fail
  go_ret
  exact ⟨by simp, B5.out⟩

end Go.Proofs.YtdjobekjfggndaaDoor
