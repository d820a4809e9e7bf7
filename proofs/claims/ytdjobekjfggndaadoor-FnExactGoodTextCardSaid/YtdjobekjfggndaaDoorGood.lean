/- GoodText and its reference. -/
import Derived.Test.YtdjobekjfggndaaDoorDec
import Derived.Test.YtdjobekjfggndaaDoorList
import Derived.Test.YtdjobekjfggndaaDoorKeep
import Derived.Test.YtdjobekjfggndaaDoorRange
namespace Go.Proofs.YtdjobekjfggndaaDoor
open Go.RowKit
set_option linter.unusedVariables false

def goodB (xId : ByteArray) (xCount : Int) (xLeast : Int) (xPrice : Int) : Bool := nameB xId && (inB xCount 0 100000 && (inB xLeast 0 100000 && (inB xPrice 0 10000000)))

set_option maxRecDepth 100000 in
theorem goodValid_ok (xId : ByteArray) (xCount : Int) (xLeast : Int) (xPrice : Int) (w : World) (hsId : xId.size ≤ maxLen) :
    Calls Tryd.prog 77 #[.agg #[.string xId, .int .i64 xCount, .int .i64 xLeast, .int .i64 xPrice]] w fun e w' => e = .returned (.bool (goodB xId xCount xLeast xPrice)) ∧ Below w.heap.size w w' := by
  go_enter Tryd.func77, Tryd.ntmps77
  go_wp2_with (first | (go_at_call 82; refine (IsName_ok _ _ (by assumption)).mono ?_; rintro e w' ⟨rfl, rfl⟩) | (go_at_call 104; refine (isPieces_ok _ _).mono ?_; rintro e w' ⟨rfl, rfl⟩) | (go_at_call 93; refine (isMoney_ok _ _).mono ?_; rintro e w' ⟨rfl, rfl⟩))
  all_goals (go_ret; exact ⟨ret_bool (by simp [goodB, *]), below_alloc _ _⟩)

set_option maxRecDepth 100000 in
theorem goodOne_ok (xId : ByteArray) (xCount : Int) (xLeast : Int) (xPrice : Int) (b o : Nat) (w : World) (hsId : xId.size ≤ maxLen) (k0 : w.cell? ⟨b, o, none⟩ = some (.string xId)) (k1 : w.cell? ⟨b, o + 1, none⟩ = some (.int .i64 xCount)) (k2 : w.cell? ⟨b, o + 2, none⟩ = some (.int .i64 xLeast)) (k3 : w.cell? ⟨b, o + 3, none⟩ = some (.int .i64 xPrice)) :
    Calls Tryd.prog 75 #[.pointer (some ⟨b, o, none⟩)] w fun e w' => e = .returned (.bool (goodB xId xCount xLeast xPrice)) ∧ w = w' := by
  go_enter Tryd.func75, Tryd.ntmps75
  go_wp2_with (first | (go_at_call 78; refine (l01Name_ok _ _ (by assumption)).mono ?_; rintro e w' ⟨rfl, rfl⟩) | (go_at_call 103; refine (l26Count_ok _ _).mono ?_; rintro e w' ⟨rfl, rfl⟩) | (go_at_call 91; refine (l21Money_ok _ _).mono ?_; rintro e w' ⟨rfl, rfl⟩))
  all_goals (go_ret; exact ⟨ret_bool (by simp [goodB, *]), rfl⟩)

theorem goodB_bd {xId : ByteArray} {xCount xLeast xPrice : Int} (h : goodB xId xCount xLeast xPrice = true) : xId.size ≤ 10 ∧ 0 ≤ xCount ∧ xCount ≤ 10000000 ∧ 0 ≤ xLeast ∧ xLeast ≤ 10000000 ∧ 0 ≤ xPrice ∧ xPrice ≤ 10000000 := by
  simp only [goodB, Bool.and_eq_true, inB_iff] at h
  obtain ⟨a0, a1, a2, a3⟩ := h
  refine ⟨name_size a0, by omega, by omega, by omega, by omega, by omega, by omega⟩

/-- the text -/
def goodT (xId : ByteArray) (xCount : Int) (xLeast : Int) (xPrice : Int) : ByteArray := xId ++ ⟨#[32]⟩ ++ listT [xCount, xLeast, xPrice]

theorem first_intsGood {w : World} {A : Option Addr} {ns : List Int} (h : IntsAt w A ns) : IntsAt w A ns := h
set_option maxHeartbeats 800000 in
set_option maxRecDepth 100000 in
theorem GoodText_ok (xId : ByteArray) (xCount : Int) (xLeast : Int) (xPrice : Int) (w : World) (hsId : xId.size ≤ maxLen) (ht : Tab w) :
    Calls Tryd.prog 47 #[.agg #[.string xId, .int .i64 xCount, .int .i64 xLeast, .int .i64 xPrice]] w fun e w' => e = .returned (.string (orNo (goodB xId xCount xLeast xPrice) (goodT xId xCount xLeast xPrice))) ∧ Below w.heap.size w w' := by
  cases hv : goodB xId xCount xLeast xPrice
  · go_enter Tryd.func47, Tryd.ntmps47
    go_wp2_with (go_at_call 77; refine (goodValid_ok _ _ _ _ _ hsId).mono ?_; rintro e w1 ⟨rfl, hb⟩)
    go_ret
    exact ⟨rfl, below_chain hb (Below.refl _ _)⟩
  · obtain ⟨zId, lCount, uCount, lLeast, uLeast, lPrice, uPrice⟩ := goodB_bd hv
    have HC0 := hid (HasC.new w [.string xId, .int .i64 xCount, .int .i64 xLeast, .int .i64 xPrice] 82)
    have HT := hid (ht.alloc (.cells [.string xId, .int .i64 xCount, .int .i64 xLeast, .int .i64 xPrice].toArray 82))
    have hsm := hid (show Small [xCount, xLeast, xPrice] from ⟨by simp, by intro n hn; simp at hn; omega⟩)
    have hsz : (listT [xCount, xLeast, xPrice]).size ≤ 1344 := listT_size hsm.out
    clear ht
    go_enter Tryd.func47, Tryd.ntmps47
    go_wp2_with (go_at_call 77; refine (goodValid_ok _ _ _ _ _ hsId).mono ?_; rintro e w1 ⟨rfl, hb⟩; have HC := hid (HC0.out.below hb); have k0 : w1.cell? ⟨w.heap.size, 0, none⟩ = some (.string xId) := HC.out.2 0 _ rfl; have k1 : w1.cell? ⟨w.heap.size, 1, none⟩ = some (.int .i64 xCount) := HC.out.2 1 _ rfl; have k2 : w1.cell? ⟨w.heap.size, 2, none⟩ = some (.int .i64 xLeast) := HC.out.2 2 _ rfl; have k3 : w1.cell? ⟨w.heap.size, 3, none⟩ = some (.int .i64 xPrice) := HC.out.2 3 _ rfl; have hlt : w.heap.size < w1.heap.size := HC.out.1; have ht1 : Tab w1 := HT.out.below hb; clear HC HC0 HT)
    go_wp2_with (go_at_call 65; refine (named_ok _ _ _ [xCount, xLeast, xPrice] _ zId (ht1.alloc _) (IntsAt.new w1 [xCount, xLeast, xPrice] _) hsm.out).mono ?_; rintro e w2 ⟨rfl, hb2⟩)
    go_ret
    exact ⟨by simp [goodT, orNo], below_chain hb (below_trans (below_alloc _ _) hb2)⟩

set_option maxHeartbeats 800000 in
set_option maxRecDepth 100000 in
theorem goodSText_ok (xId : ByteArray) (xCount : Int) (xLeast : Int) (xPrice : Int) (b o : Nat) (w : World) (hv : goodB xId xCount xLeast xPrice = true) (hlt : b < w.heap.size) (k0 : w.cell? ⟨b, o, none⟩ = some (.string xId)) (k1 : w.cell? ⟨b, o + 1, none⟩ = some (.int .i64 xCount)) (k2 : w.cell? ⟨b, o + 2, none⟩ = some (.int .i64 xLeast)) (k3 : w.cell? ⟨b, o + 3, none⟩ = some (.int .i64 xPrice)) :
    Calls Tryd.prog 76 #[.pointer (some ⟨b, o, none⟩)] w fun e w' => e = .returned (.string (goodT xId xCount xLeast xPrice)) ∧ Below w.heap.size w w' := by
  · obtain ⟨zId, lCount, uCount, lLeast, uLeast, lPrice, uPrice⟩ := goodB_bd hv
    have hsm := hid (show Small [xCount, xLeast, xPrice] from ⟨by simp, by intro n hn; simp at hn; omega⟩)
    have hsz : (listT [xCount, xLeast, xPrice]).size ≤ 1344 := listT_size hsm.out
    have g1 : ¬ 9223372036854775807 < xId.size + 1 := by omega
    have g2 : ¬ 9223372036854775807 < xId.size + 1 + (listT [xCount, xLeast, xPrice]).size := by omega
    clear hv
    go_enter Tryd.func76, Tryd.ntmps76
    go_wp2_with fail
    go_region_held3 (fun w' => (True ∧ Below w.heap.size w w') ∧ w'.cell? ⟨b, o, none⟩ = some (.string xId) ∧ w'.cell? ⟨b, o + 1, none⟩ = some (.int .i64 xCount) ∧ w'.cell? ⟨b, o + 2, none⟩ = some (.int .i64 xLeast) ∧ w'.cell? ⟨b, o + 3, none⟩ = some (.int .i64 xPrice))
      (first | exact ⟨⟨trivial, (Below.refl _ _).drew⟩, k0, k1, k2, k3⟩ | exact keepN4 hlt ‹_ ∧ _› (below_alloc _ _) | exact keepN4 hlt ‹_ ∧ _› ‹Below _ _ _›)
      (first | (go_at_call 96; refine (l01List_ok _ _ [xCount, xLeast, xPrice] _ (first_intsGood (by first | exact IntsAt.new _ [xCount, xLeast, xPrice] _ | exact (IntsAt.new _ [xCount, xLeast, xPrice] _).drew)) hsm.out (by intro n hn; simp at hn; omega)).mono ?_; rintro e w2 ⟨rfl, hb2⟩))
    go_wp2_with fail
    go_ret
    obtain ⟨⟨_, hB⟩, _⟩ := ‹(_ ∧ Below _ _ _) ∧ _›
    exact ⟨by simp [goodT], hB⟩

theorem specGoodText_ok (xId : ByteArray) (xCount : Int) (xLeast : Int) (xPrice : Int) (w : World) (hsId : xId.size ≤ maxLen) :
    Calls Tryd.prog 45 #[.agg #[.string xId, .int .i64 xCount, .int .i64 xLeast, .int .i64 xPrice]] w fun e w' => e = .returned (.string (orNo (goodB xId xCount xLeast xPrice) (goodT xId xCount xLeast xPrice))) ∧ Below w.heap.size w w' := by
  cases hv : goodB xId xCount xLeast xPrice
  · go_enter Tryd.func45, Tryd.ntmps45
    go_wp2_with (go_at_call 75; refine (goodOne_ok xId xCount xLeast xPrice _ _ _ hsId (by simp) (by simp) (by simp) (by simp)).mono ?_; rintro e w1 ⟨rfl, rfl⟩)
    go_ret
    exact ⟨rfl, below_alloc _ _⟩
  · have HV := hid hv
    go_enter Tryd.func45, Tryd.ntmps45
    go_wp2_with (first | (go_at_call 75; refine (goodOne_ok xId xCount xLeast xPrice _ _ _ hsId (by simp) (by simp) (by simp) (by simp)).mono ?_; rintro e w1 ⟨rfl, rfl⟩) | (go_at_call 76; refine (goodSText_ok xId xCount xLeast xPrice _ _ _ HV.out (by simp) (by simp) (by simp) (by simp) (by simp)).mono ?_; rintro e w1 ⟨rfl, hb1⟩))
    go_ret
    exact ⟨by simp [orNo], below_chain hb1 (Below.refl _ _)⟩

theorem toGood_ok (xId : ByteArray) (xCount : Int) (xLeast : Int) (xPrice : Int) (w : World) :
    Calls Tryd.prog 46 #[.agg #[.string xId, .int .i64 xCount, .int .i64 xLeast, .int .i64 xPrice]] w fun e w' => e = .returned (.agg #[.string xId, .int .i64 xCount, .int .i64 xLeast, .int .i64 xPrice]) ∧ Below w.heap.size w w' := by
  go_enter Tryd.func46, Tryd.ntmps46
  go_wp2_with fail
  exact bodyPost_ret (v := .agg #[.string xId, .int .i64 xCount, .int .i64 xLeast, .int .i64 xPrice]) (by simp [results, Tryd.results46, go_sem]) rfl ⟨rfl, ((below_alloc _ _).alloc (by simp) _).alloc (by simp; omega) _⟩

theorem szGood_ok (xId : ByteArray) (xCount : Int) (xLeast : Int) (xPrice : Int) (l : Int) (w : World) (hsId : xId.size ≤ maxLen) (h0 : 0 ≤ l) (h1 : l ≤ 1048576) :
    Calls Tryd.prog 44 #[.agg #[.string xId, .int .i64 xCount, .int .i64 xLeast, .int .i64 xPrice], .int .i64 l] w fun e w' => (∃ z : Int, e = .returned (.int .i64 z)) ∧ Below w.heap.size w w' := by
  unfold maxLen at hsId
  go_enter Tryd.func44, Tryd.ntmps44
  go_wp2_with fail
  all_goals (go_ret; exact ⟨⟨_, rfl⟩, below_alloc _ _⟩)

set_option maxHeartbeats 800000 in
theorem lawGood_ok (xId : ByteArray) (xCount : Int) (xLeast : Int) (xPrice : Int) (w : World) (hsId : xId.size ≤ maxLen) (ht : Tab w) :
    Calls Tryd.prog 11 #[.agg #[.string xId, .int .i64 xCount, .int .i64 xLeast, .int .i64 xPrice]] w fun e w' => e = .returned (.bool true) ∧ Below w.heap.size w w' := by
  have HT := hid (ht.alloc (.cells [.string xId, .int .i64 xCount, .int .i64 xLeast, .int .i64 xPrice].toArray 79))
  have HH := hid (HasC.new w [.string xId, .int .i64 xCount, .int .i64 xLeast, .int .i64 xPrice] 79)
  have HB := hid (below_alloc w (.cells [.string xId, .int .i64 xCount, .int .i64 xLeast, .int .i64 xPrice].toArray 79))
  clear ht
  go_enter Tryd.func11, Tryd.ntmps11
  go_wp2_with fail
  refine (szGood_ok xId xCount xLeast xPrice _ _ hsId (by omega) (by omega)).mono ?_
  rintro e w1 ⟨⟨z, rfl⟩, hb⟩
  have H1 := hid (HH.out.below hb)
  have T1 := hid (HT.out.below hb)
  have B1 := hid (below_trans HB.out hb)
  have c0 := H1.out.2 0 _ rfl
  have c1 := H1.out.2 1 _ rfl
  have c2 := H1.out.2 2 _ rfl
  have c3 := H1.out.2 3 _ rfl
  clear hb HT HH HB
  go_wp2_with fail
  · go_ret
    exact ⟨rfl, B1.out⟩
  refine (toGood_ok xId xCount xLeast xPrice _).mono ?_
  rintro e w2 ⟨rfl, hb⟩
  have H2 := hid (H1.out.below hb)
  have T2 := hid (T1.out.below hb)
  have B2 := hid (below_trans B1.out hb)
  clear hb H1 T1 B1 c0 c1 c2 c3
  go_wp2_with fail
  refine (specGoodText_ok xId xCount xLeast xPrice _ hsId).mono ?_
  rintro e w3 ⟨rfl, hb⟩
  have H3 := hid (H2.out.below hb)
  have T3 := hid (T2.out.below hb)
  have B3 := hid (below_trans B2.out hb)
  have c0 := H3.out.2 0 _ rfl
  have c1 := H3.out.2 1 _ rfl
  have c2 := H3.out.2 2 _ rfl
  have c3 := H3.out.2 3 _ rfl
  clear hb H2 T2 B2
  go_wp2_with fail
  refine (toGood_ok xId xCount xLeast xPrice _).mono ?_
  rintro e w4 ⟨rfl, hb⟩
  have T4 := hid (T3.out.below hb)
  have B4 := hid (below_trans B3.out hb)
  clear hb H3 T3 B3 c0 c1 c2 c3
  go_wp2_with fail
  refine (GoodText_ok xId xCount xLeast xPrice _ hsId T4.out).mono ?_
  rintro e w5 ⟨rfl, hb⟩
  have B5 := hid (below_trans B4.out hb)
  clear hb T4 B4
  go_wp2_with fail
  go_ret
  exact ⟨by simp, B5.out⟩

end Go.Proofs.YtdjobekjfggndaaDoor
