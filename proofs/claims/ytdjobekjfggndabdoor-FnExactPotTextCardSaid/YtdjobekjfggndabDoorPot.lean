/- PotText and its reference. -/
import Derived.Test.YtdjobekjfggndabDoorDec
import Derived.Test.YtdjobekjfggndabDoorList
import Derived.Test.YtdjobekjfggndabDoorKeep
import Derived.Test.YtdjobekjfggndabDoorRange
namespace Go.Proofs.YtdjobekjfggndabDoor
open Go.RowKit
set_option linter.unusedVariables false

def potB (xId : ByteArray) (xDry : Int) (xWater : Int) (xHeat : Int) (xHours : Int) : Bool := nameB xId && (inB xDry 1 10000 && (inB xWater 1 10000 && (inB xHeat 20 95 && (inB xHours 0 1000))))

set_option maxRecDepth 100000 in
theorem potValid_ok (xId : ByteArray) (xDry : Int) (xWater : Int) (xHeat : Int) (xHours : Int) (w : World) (hsId : xId.size ≤ maxLen) :
    Calls Tryd.prog 60 #[.agg #[.string xId, .int .i64 xDry, .int .i64 xWater, .int .i64 xHeat, .int .i64 xHours]] w fun e w' => e = .returned (.bool (potB xId xDry xWater xHeat xHours)) ∧ Below w.heap.size w w' := by
  go_enter Tryd.func60, Tryd.ntmps60
  go_wp2_with (first | (go_at_call 96; refine (IsName_ok _ _ (by assumption)).mono ?_; rintro e w' ⟨rfl, rfl⟩) | (go_at_call 105; refine (isGrams_ok _ _).mono ?_; rintro e w' ⟨rfl, rfl⟩) | (go_at_call 106; refine (isHeat_ok _ _).mono ?_; rintro e w' ⟨rfl, rfl⟩) | (go_at_call 73; refine (within_ok _ _ _ _).mono ?_; rintro e w' ⟨rfl, rfl⟩))
  all_goals (go_ret; exact ⟨ret_bool (by simp [potB, *]), below_alloc _ _⟩)

set_option maxRecDepth 100000 in
theorem potOne_ok (xId : ByteArray) (xDry : Int) (xWater : Int) (xHeat : Int) (xHours : Int) (b o : Nat) (w : World) (hsId : xId.size ≤ maxLen) (k0 : w.cell? ⟨b, o, none⟩ = some (.string xId)) (k1 : w.cell? ⟨b, o + 1, none⟩ = some (.int .i64 xDry)) (k2 : w.cell? ⟨b, o + 2, none⟩ = some (.int .i64 xWater)) (k3 : w.cell? ⟨b, o + 3, none⟩ = some (.int .i64 xHeat)) (k4 : w.cell? ⟨b, o + 4, none⟩ = some (.int .i64 xHours)) :
    Calls Tryd.prog 58 #[.pointer (some ⟨b, o, none⟩)] w fun e w' => e = .returned (.bool (potB xId xDry xWater xHeat xHours)) ∧ Below w.heap.size w w' := by
  go_enter Tryd.func58, Tryd.ntmps58
  go_wp2_with (first | (go_at_call 92; refine (l01Name_ok _ _ (by assumption)).mono ?_; rintro e w' ⟨rfl, rfl⟩) | (go_at_call 103; refine (l14Grams_ok _ _).mono ?_; rintro e w' ⟨rfl, rfl⟩) | (go_at_call 104; refine (l14Heat_ok _ _).mono ?_; rintro e w' ⟨rfl, rfl⟩) | (go_at_call 68; refine (l00In_ok _ _ _ _).mono ?_; rintro e w' ⟨rfl, rfl⟩))
  all_goals (go_ret; exact ⟨ret_bool (by simp [potB, *]), Below.refl _ _⟩)

theorem potB_bd {xId : ByteArray} {xDry xWater xHeat xHours : Int} (h : potB xId xDry xWater xHeat xHours = true) : xId.size ≤ 10 ∧ 0 ≤ xDry ∧ xDry ≤ 10000000 ∧ 0 ≤ xWater ∧ xWater ≤ 10000000 ∧ 0 ≤ xHeat ∧ xHeat ≤ 10000000 ∧ 0 ≤ xHours ∧ xHours ≤ 10000000 := by
  simp only [potB, Bool.and_eq_true, inB_iff] at h
  obtain ⟨a0, a1, a2, a3, a4⟩ := h
  refine ⟨name_size a0, by omega, by omega, by omega, by omega, by omega, by omega, by omega, by omega⟩

/-- the text -/
def potT (xId : ByteArray) (xDry : Int) (xWater : Int) (xHeat : Int) (xHours : Int) : ByteArray := xId ++ ⟨#[32]⟩ ++ listT [xDry, xWater, xHeat, xHours]

theorem first_intsPot {w : World} {A : Option Addr} {ns : List Int} (h : IntsAt w A ns) : IntsAt w A ns := h
set_option maxHeartbeats 800000 in
set_option maxRecDepth 100000 in
theorem PotText_ok (xId : ByteArray) (xDry : Int) (xWater : Int) (xHeat : Int) (xHours : Int) (w : World) (hsId : xId.size ≤ maxLen) (ht : Tab w) :
    Calls Tryd.prog 23 #[.agg #[.string xId, .int .i64 xDry, .int .i64 xWater, .int .i64 xHeat, .int .i64 xHours]] w fun e w' => e = .returned (.string (orNo (potB xId xDry xWater xHeat xHours) (potT xId xDry xWater xHeat xHours))) ∧ Below w.heap.size w w' := by
  cases hv : potB xId xDry xWater xHeat xHours
  · go_enter Tryd.func23, Tryd.ntmps23
    go_wp2_with (go_at_call 60; refine (potValid_ok _ _ _ _ _ _ hsId).mono ?_; rintro e w1 ⟨rfl, hb⟩)
    go_ret
    exact ⟨rfl, below_chain hb (Below.refl _ _)⟩
  · obtain ⟨zId, lDry, uDry, lWater, uWater, lHeat, uHeat, lHours, uHours⟩ := potB_bd hv
    have HC0 := hid (HasC.new w [.string xId, .int .i64 xDry, .int .i64 xWater, .int .i64 xHeat, .int .i64 xHours] 40)
    have HT := hid (ht.alloc (.cells [.string xId, .int .i64 xDry, .int .i64 xWater, .int .i64 xHeat, .int .i64 xHours].toArray 40))
    have hsm := hid (show Small [xDry, xWater, xHeat, xHours] from ⟨by simp, by intro n hn; simp at hn; omega⟩)
    have hsz : (listT [xDry, xWater, xHeat, xHours]).size ≤ 1344 := listT_size hsm.out
    clear ht
    go_enter Tryd.func23, Tryd.ntmps23
    go_wp2_with (go_at_call 60; refine (potValid_ok _ _ _ _ _ _ hsId).mono ?_; rintro e w1 ⟨rfl, hb⟩; have HC := hid (HC0.out.below hb); have k0 : w1.cell? ⟨w.heap.size, 0, none⟩ = some (.string xId) := HC.out.2 0 _ rfl; have k1 : w1.cell? ⟨w.heap.size, 1, none⟩ = some (.int .i64 xDry) := HC.out.2 1 _ rfl; have k2 : w1.cell? ⟨w.heap.size, 2, none⟩ = some (.int .i64 xWater) := HC.out.2 2 _ rfl; have k3 : w1.cell? ⟨w.heap.size, 3, none⟩ = some (.int .i64 xHeat) := HC.out.2 3 _ rfl; have k4 : w1.cell? ⟨w.heap.size, 4, none⟩ = some (.int .i64 xHours) := HC.out.2 4 _ rfl; have hlt : w.heap.size < w1.heap.size := HC.out.1; have ht1 : Tab w1 := HT.out.below hb; clear HC HC0 HT)
    go_wp2_with (go_at_call 54; refine (named_ok _ _ _ [xDry, xWater, xHeat, xHours] _ zId (ht1.alloc _) (IntsAt.new w1 [xDry, xWater, xHeat, xHours] _) hsm.out).mono ?_; rintro e w2 ⟨rfl, hb2⟩)
    go_ret
    exact ⟨by simp [potT, orNo], below_chain hb (below_trans (below_alloc _ _) hb2)⟩

set_option maxHeartbeats 800000 in
set_option maxRecDepth 100000 in
theorem potSText_ok (xId : ByteArray) (xDry : Int) (xWater : Int) (xHeat : Int) (xHours : Int) (b o : Nat) (w : World) (hv : potB xId xDry xWater xHeat xHours = true) (hlt : b < w.heap.size) (k0 : w.cell? ⟨b, o, none⟩ = some (.string xId)) (k1 : w.cell? ⟨b, o + 1, none⟩ = some (.int .i64 xDry)) (k2 : w.cell? ⟨b, o + 2, none⟩ = some (.int .i64 xWater)) (k3 : w.cell? ⟨b, o + 3, none⟩ = some (.int .i64 xHeat)) (k4 : w.cell? ⟨b, o + 4, none⟩ = some (.int .i64 xHours)) :
    Calls Tryd.prog 59 #[.pointer (some ⟨b, o, none⟩)] w fun e w' => e = .returned (.string (potT xId xDry xWater xHeat xHours)) ∧ Below w.heap.size w w' := by
  · obtain ⟨zId, lDry, uDry, lWater, uWater, lHeat, uHeat, lHours, uHours⟩ := potB_bd hv
    have hsm := hid (show Small [xDry, xWater, xHeat, xHours] from ⟨by simp, by intro n hn; simp at hn; omega⟩)
    have hsz : (listT [xDry, xWater, xHeat, xHours]).size ≤ 1344 := listT_size hsm.out
    have g1 : ¬ 9223372036854775807 < xId.size + 1 := by omega
    have g2 : ¬ 9223372036854775807 < xId.size + 1 + (listT [xDry, xWater, xHeat, xHours]).size := by omega
    clear hv
    go_enter Tryd.func59, Tryd.ntmps59
    go_wp2_with fail
    go_region_held3 (fun w' => (True ∧ Below w.heap.size w w') ∧ w'.cell? ⟨b, o, none⟩ = some (.string xId) ∧ w'.cell? ⟨b, o + 1, none⟩ = some (.int .i64 xDry) ∧ w'.cell? ⟨b, o + 2, none⟩ = some (.int .i64 xWater) ∧ w'.cell? ⟨b, o + 3, none⟩ = some (.int .i64 xHeat) ∧ w'.cell? ⟨b, o + 4, none⟩ = some (.int .i64 xHours))
      (first | exact ⟨⟨trivial, (Below.refl _ _).drew⟩, k0, k1, k2, k3, k4⟩ | exact keepN5 hlt ‹_ ∧ _› (below_alloc _ _) | exact keepN5 hlt ‹_ ∧ _› ‹Below _ _ _›)
      (first | (go_at_call 95; refine (l01List_ok _ _ [xDry, xWater, xHeat, xHours] _ (first_intsPot (by first | exact IntsAt.new _ [xDry, xWater, xHeat, xHours] _ | exact (IntsAt.new _ [xDry, xWater, xHeat, xHours] _).drew)) hsm.out (by intro n hn; simp at hn; omega)).mono ?_; rintro e w2 ⟨rfl, hb2⟩))
    go_wp2_with fail
    go_ret
    obtain ⟨⟨_, hB⟩, _⟩ := ‹(_ ∧ Below _ _ _) ∧ _›
    exact ⟨by simp [potT], hB⟩

theorem specPotText_ok (xId : ByteArray) (xDry : Int) (xWater : Int) (xHeat : Int) (xHours : Int) (w : World) (hsId : xId.size ≤ maxLen) :
    Calls Tryd.prog 21 #[.agg #[.string xId, .int .i64 xDry, .int .i64 xWater, .int .i64 xHeat, .int .i64 xHours]] w fun e w' => e = .returned (.string (orNo (potB xId xDry xWater xHeat xHours) (potT xId xDry xWater xHeat xHours))) ∧ Below w.heap.size w w' := by
  have HC0 := hid (HasC.new w [.string xId, .int .i64 xDry, .int .i64 xWater, .int .i64 xHeat, .int .i64 xHours] 40)
  cases hv : potB xId xDry xWater xHeat xHours
  · clear HC0
    go_enter Tryd.func21, Tryd.ntmps21
    go_wp2_with (go_at_call 58; refine (potOne_ok xId xDry xWater xHeat xHours _ _ _ hsId (by simp) (by simp) (by simp) (by simp) (by simp)).mono ?_; rintro e w1 ⟨rfl, hb⟩)
    go_ret
    exact ⟨rfl, below_chain hb (Below.refl _ _)⟩
  · have HV := hid hv
    go_enter Tryd.func21, Tryd.ntmps21
    go_wp2_with (first | (go_at_call 58; refine (potOne_ok xId xDry xWater xHeat xHours _ _ _ hsId (by simp) (by simp) (by simp) (by simp) (by simp)).mono ?_; rintro e w1 ⟨rfl, hb⟩; have HC := hid (HC0.out.below hb); clear HC0) | (go_at_call 59; refine (potSText_ok xId xDry xWater xHeat xHours _ _ _ HV.out HC.out.1 (HC.out.2 0 _ rfl) (HC.out.2 1 _ rfl) (HC.out.2 2 _ rfl) (HC.out.2 3 _ rfl) (HC.out.2 4 _ rfl)).mono ?_; rintro e w2 ⟨rfl, hb1⟩))
    go_ret
    exact ⟨by simp [orNo], below_chain hb hb1⟩

theorem toPot_ok (xId : ByteArray) (xDry : Int) (xWater : Int) (xHeat : Int) (xHours : Int) (w : World) :
    Calls Tryd.prog 22 #[.agg #[.string xId, .int .i64 xDry, .int .i64 xWater, .int .i64 xHeat, .int .i64 xHours]] w fun e w' => e = .returned (.agg #[.string xId, .int .i64 xDry, .int .i64 xWater, .int .i64 xHeat, .int .i64 xHours]) ∧ Below w.heap.size w w' := by
  go_enter Tryd.func22, Tryd.ntmps22
  go_wp2_with fail
  exact bodyPost_ret (v := .agg #[.string xId, .int .i64 xDry, .int .i64 xWater, .int .i64 xHeat, .int .i64 xHours]) (by simp [results, Tryd.results22, go_sem]) rfl ⟨rfl, ((below_alloc _ _).alloc (by simp) _).alloc (by simp; omega) _⟩

theorem szPot_ok (xId : ByteArray) (xDry : Int) (xWater : Int) (xHeat : Int) (xHours : Int) (l : Int) (w : World) (hsId : xId.size ≤ maxLen) (h0 : 0 ≤ l) (h1 : l ≤ 1048576) :
    Calls Tryd.prog 20 #[.agg #[.string xId, .int .i64 xDry, .int .i64 xWater, .int .i64 xHeat, .int .i64 xHours], .int .i64 l] w fun e w' => (∃ z : Int, e = .returned (.int .i64 z)) ∧ Below w.heap.size w w' := by
  unfold maxLen at hsId
  go_enter Tryd.func20, Tryd.ntmps20
  go_wp2_with fail
  all_goals (go_ret; exact ⟨⟨_, rfl⟩, below_alloc _ _⟩)

set_option maxHeartbeats 800000 in
theorem lawPot_ok (xId : ByteArray) (xDry : Int) (xWater : Int) (xHeat : Int) (xHours : Int) (w : World) (hsId : xId.size ≤ maxLen) (ht : Tab w) :
    Calls Tryd.prog 5 #[.agg #[.string xId, .int .i64 xDry, .int .i64 xWater, .int .i64 xHeat, .int .i64 xHours]] w fun e w' => e = .returned (.bool true) ∧ Below w.heap.size w w' := by
  have HT := hid (ht.alloc (.cells [.string xId, .int .i64 xDry, .int .i64 xWater, .int .i64 xHeat, .int .i64 xHours].toArray 37))
  have HH := hid (HasC.new w [.string xId, .int .i64 xDry, .int .i64 xWater, .int .i64 xHeat, .int .i64 xHours] 37)
  have HB := hid (below_alloc w (.cells [.string xId, .int .i64 xDry, .int .i64 xWater, .int .i64 xHeat, .int .i64 xHours].toArray 37))
  clear ht
  go_enter Tryd.func5, Tryd.ntmps5
  go_wp2_with fail
  refine (szPot_ok xId xDry xWater xHeat xHours _ _ hsId (by omega) (by omega)).mono ?_
  rintro e w1 ⟨⟨z, rfl⟩, hb⟩
  have H1 := hid (HH.out.below hb)
  have T1 := hid (HT.out.below hb)
  have B1 := hid (below_trans HB.out hb)
  have c0 := H1.out.2 0 _ rfl
  have c1 := H1.out.2 1 _ rfl
  have c2 := H1.out.2 2 _ rfl
  have c3 := H1.out.2 3 _ rfl
  have c4 := H1.out.2 4 _ rfl
  clear hb HT HH HB
  go_wp2_with fail
  · go_ret
    exact ⟨rfl, B1.out⟩
  refine (toPot_ok xId xDry xWater xHeat xHours _).mono ?_
  rintro e w2 ⟨rfl, hb⟩
  have H2 := hid (H1.out.below hb)
  have T2 := hid (T1.out.below hb)
  have B2 := hid (below_trans B1.out hb)
  clear hb H1 T1 B1 c0 c1 c2 c3 c4
  go_wp2_with fail
  refine (specPotText_ok xId xDry xWater xHeat xHours _ hsId).mono ?_
  rintro e w3 ⟨rfl, hb⟩
  have H3 := hid (H2.out.below hb)
  have T3 := hid (T2.out.below hb)
  have B3 := hid (below_trans B2.out hb)
  have c0 := H3.out.2 0 _ rfl
  have c1 := H3.out.2 1 _ rfl
  have c2 := H3.out.2 2 _ rfl
  have c3 := H3.out.2 3 _ rfl
  have c4 := H3.out.2 4 _ rfl
  clear hb H2 T2 B2
  go_wp2_with fail
  refine (toPot_ok xId xDry xWater xHeat xHours _).mono ?_
  rintro e w4 ⟨rfl, hb⟩
  have T4 := hid (T3.out.below hb)
  have B4 := hid (below_trans B3.out hb)
  clear hb H3 T3 B3 c0 c1 c2 c3 c4
  go_wp2_with fail
  refine (PotText_ok xId xDry xWater xHeat xHours _ hsId T4.out).mono ?_
  rintro e w5 ⟨rfl, hb⟩
  have B5 := hid (below_trans B4.out hb)
  clear hb T4 B4
  go_wp2_with fail
  go_ret
  exact ⟨by simp, B5.out⟩

end Go.Proofs.YtdjobekjfggndabDoor
