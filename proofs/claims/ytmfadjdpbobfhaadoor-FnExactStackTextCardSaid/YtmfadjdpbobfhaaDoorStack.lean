/- StackText and its reference. -/
import Derived.Test.YtmfadjdpbobfhaaDoorDec
import Derived.Test.YtmfadjdpbobfhaaDoorList
import Derived.Test.YtmfadjdpbobfhaaDoorKeep
import Derived.Test.YtmfadjdpbobfhaaDoorRange
import Derived.Test.YtmfadjdpbobfhaaDoorStackO
import Derived.Test.YtmfadjdpbobfhaaDoorDate
namespace Go.Proofs.YtmfadjdpbobfhaaDoor
open Go.RowKit
set_option linter.unusedVariables false

theorem stackB_bd {xId : ByteArray} {xMoisture xThick xSince : Int} (h : stackB xId xMoisture xThick xSince = true) : xId.size ≤ 10 ∧ 0 ≤ xMoisture ∧ xMoisture ≤ 10000000 ∧ 0 ≤ xThick ∧ xThick ≤ 10000000 ∧ 0 ≤ xSince ∧ xSince ≤ 36524 := by
  simp only [stackB, Bool.and_eq_true, inB_iff] at h
  obtain ⟨a0, a1, a2, a3⟩ := h
  refine ⟨name_size a0, by omega, by omega, by omega, by omega, by omega, by omega⟩

/-- the text -/
noncomputable def stackT (xId : ByteArray) (xMoisture : Int) (xThick : Int) (xSince : Int) : ByteArray := xId ++ ⟨#[32]⟩ ++ listT [xMoisture, xThick] ++ ⟨#[32]⟩ ++ dateT xSince

theorem first_intsStack {w : World} {A : Option Addr} {ns : List Int} (h : IntsAt w A ns) : IntsAt w A ns := h
set_option maxHeartbeats 800000 in
set_option maxRecDepth 100000 in
theorem StackText_ok (xId : ByteArray) (xMoisture : Int) (xThick : Int) (xSince : Int) (w : World) (hsId : xId.size ≤ maxLen) (ht : Tab w) :
    Calls Tryd.prog 20 #[.agg #[.string xId, .int .i64 xMoisture, .int .i64 xThick, .int .i64 xSince]] w fun e w' => e = .returned (.string (orNo (stackB xId xMoisture xThick xSince) (stackT xId xMoisture xThick xSince))) ∧ Below w.heap.size w w' := by
  cases hv : stackB xId xMoisture xThick xSince
  · go_enter Tryd.func20, Tryd.ntmps20
    go_wp2_with (go_at_call 67; refine (stackValid_ok _ _ _ _ _ hsId).mono ?_; rintro e w1 ⟨rfl, hb⟩)
    go_ret
    exact ⟨rfl, below_chain hb (Below.refl _ _)⟩
  · obtain ⟨zId, lMoisture, uMoisture, lThick, uThick, lSince, uSince⟩ := stackB_bd hv
    have HC0 := hid (HasC.new w [.string xId, .int .i64 xMoisture, .int .i64 xThick, .int .i64 xSince] 35)
    have HT := hid (ht.alloc (.cells [.string xId, .int .i64 xMoisture, .int .i64 xThick, .int .i64 xSince].toArray 35))
    have hsm := hid (show Small [xMoisture, xThick] from ⟨by simp, by intro n hn; simp at hn; omega⟩)
    have hsz : (listT [xMoisture, xThick]).size ≤ 1344 := listT_size hsm.out
    clear ht
    go_enter Tryd.func20, Tryd.ntmps20
    go_wp2_with (go_at_call 67; refine (stackValid_ok _ _ _ _ _ hsId).mono ?_; rintro e w1 ⟨rfl, hb⟩; have HC := hid (HC0.out.below hb); have k0 : w1.cell? ⟨w.heap.size, 0, none⟩ = some (.string xId) := HC.out.2 0 _ rfl; have k1 : w1.cell? ⟨w.heap.size, 1, none⟩ = some (.int .i64 xMoisture) := HC.out.2 1 _ rfl; have k2 : w1.cell? ⟨w.heap.size, 2, none⟩ = some (.int .i64 xThick) := HC.out.2 2 _ rfl; have k3 : w1.cell? ⟨w.heap.size, 3, none⟩ = some (.int .i64 xSince) := HC.out.2 3 _ rfl; have hlt : w.heap.size < w1.heap.size := HC.out.1; have ht1 : Tab w1 := HT.out.below hb; clear HC HC0 HT)
    have hds := dateT_size (d0 := xSince) lSince uSince
    have q1 : ¬ 9223372036854775807 < xId.size + 1 := by omega
    have q2 : ¬ 9223372036854775807 < xId.size + 1 + (listT [xMoisture, xThick]).size := by omega
    have q3 : ¬ 9223372036854775807 < xId.size + 1 + (listT [xMoisture, xThick]).size + 1 := by omega
    have q4 : ¬ 9223372036854775807 < xId.size + 1 + (listT [xMoisture, xThick]).size + 1 + (dateT xSince).size := by omega
    go_region_held3 (fun w' => (Tab w' ∧ Below w1.heap.size w1 w') ∧ w'.cell? ⟨w.heap.size, 0, none⟩ = some (.string xId) ∧ w'.cell? ⟨w.heap.size, 1, none⟩ = some (.int .i64 xMoisture) ∧ w'.cell? ⟨w.heap.size, 2, none⟩ = some (.int .i64 xThick) ∧ w'.cell? ⟨w.heap.size, 3, none⟩ = some (.int .i64 xSince))
      (first | exact ⟨⟨ht1.drew, (Below.refl _ _).drew⟩, k0, k1, k2, k3⟩ | exact keepT4 hlt ‹_ ∧ _› (below_alloc _ _) | exact keepT4 hlt ‹_ ∧ _› ‹Below _ _ _›)
      (first | (go_at_call 68; refine (named_ok _ _ _ [xMoisture, xThick] _ zId (And.left (And.left ‹(Tab _ ∧ _) ∧ _›)) (first_intsStack (by first | exact IntsAt.new _ [xMoisture, xThick] _ | exact (IntsAt.new _ [xMoisture, xThick] _).drew | exact (IntsAt.new _ [xMoisture, xThick] _).below hb3 | exact (IntsAt.new _ [xMoisture, xThick] _).drew.below hb3)) hsm.out).mono ?_; rintro e w2 ⟨rfl, hb2⟩) | (go_at_call 69; refine (DateText_ok xSince _ lSince uSince (And.left (And.left ‹(Tab _ ∧ _) ∧ _›))).mono ?_; rintro e w3 ⟨rfl, hb3⟩))
    go_wp2_with fail
    go_ret
    obtain ⟨⟨_, hB⟩, _⟩ := ‹(Tab _ ∧ _) ∧ _›
    exact ⟨by simp [stackT, orNo], below_chain hb hB⟩

set_option maxHeartbeats 800000 in
set_option maxRecDepth 100000 in
theorem stackSText_ok (xId : ByteArray) (xMoisture : Int) (xThick : Int) (xSince : Int) (b o : Nat) (w : World) (hv : stackB xId xMoisture xThick xSince = true) (hlt : b < w.heap.size) (k0 : w.cell? ⟨b, o, none⟩ = some (.string xId)) (k1 : w.cell? ⟨b, o + 1, none⟩ = some (.int .i64 xMoisture)) (k2 : w.cell? ⟨b, o + 2, none⟩ = some (.int .i64 xThick)) (k3 : w.cell? ⟨b, o + 3, none⟩ = some (.int .i64 xSince)) :
    Calls Tryd.prog 66 #[.pointer (some ⟨b, o, none⟩)] w fun e w' => e = .returned (.string (stackT xId xMoisture xThick xSince)) ∧ Below w.heap.size w w' := by
  · obtain ⟨zId, lMoisture, uMoisture, lThick, uThick, lSince, uSince⟩ := stackB_bd hv
    have hsm := hid (show Small [xMoisture, xThick] from ⟨by simp, by intro n hn; simp at hn; omega⟩)
    have hsz : (listT [xMoisture, xThick]).size ≤ 1344 := listT_size hsm.out
    have hds := dateT_size (d0 := xSince) lSince uSince
    have q1 : ¬ 9223372036854775807 < xId.size + 1 := by omega
    have q2 : ¬ 9223372036854775807 < xId.size + 1 + (listT [xMoisture, xThick]).size := by omega
    have q3 : ¬ 9223372036854775807 < xId.size + 1 + (listT [xMoisture, xThick]).size + 1 := by omega
    have q4 : ¬ 9223372036854775807 < xId.size + 1 + (listT [xMoisture, xThick]).size + 1 + (dateT xSince).size := by omega
    clear hv
    go_enter Tryd.func66, Tryd.ntmps66
    go_wp2_with fail
    go_region_held3 (fun w' => (True ∧ Below w.heap.size w w') ∧ w'.cell? ⟨b, o, none⟩ = some (.string xId) ∧ w'.cell? ⟨b, o + 1, none⟩ = some (.int .i64 xMoisture) ∧ w'.cell? ⟨b, o + 2, none⟩ = some (.int .i64 xThick) ∧ w'.cell? ⟨b, o + 3, none⟩ = some (.int .i64 xSince))
      (first | exact ⟨⟨trivial, (Below.refl _ _).drew⟩, k0, k1, k2, k3⟩ | exact keepN4 hlt ‹_ ∧ _› (below_alloc _ _) | exact keepN4 hlt ‹_ ∧ _› ‹Below _ _ _›)
      (first | (go_at_call 112; refine (l01List_ok _ _ [xMoisture, xThick] _ (first_intsStack (by first | exact IntsAt.new _ [xMoisture, xThick] _ | exact (IntsAt.new _ [xMoisture, xThick] _).drew | exact (IntsAt.new _ [xMoisture, xThick] _).below hb3 | exact (IntsAt.new _ [xMoisture, xThick] _).drew.below hb3)) hsm.out (by intro n hn; simp at hn; omega)).mono ?_; rintro e w2 ⟨rfl, hb2⟩) | (go_at_call 113; refine (l02Text_ok xSince _ lSince uSince).mono ?_; rintro e w3 ⟨rfl, hb3⟩))
    go_wp2_with fail
    go_ret
    obtain ⟨⟨_, hB⟩, _⟩ := ‹(_ ∧ Below _ _ _) ∧ _›
    exact ⟨by simp [stackT], hB⟩

theorem specStackText_ok (xId : ByteArray) (xMoisture : Int) (xThick : Int) (xSince : Int) (w : World) (hsId : xId.size ≤ maxLen) :
    Calls Tryd.prog 18 #[.agg #[.string xId, .int .i64 xMoisture, .int .i64 xThick, .int .i64 xSince]] w fun e w' => e = .returned (.string (orNo (stackB xId xMoisture xThick xSince) (stackT xId xMoisture xThick xSince))) ∧ Below w.heap.size w w' := by
  have HC0 := hid (HasC.new w [.string xId, .int .i64 xMoisture, .int .i64 xThick, .int .i64 xSince] 35)
  cases hv : stackB xId xMoisture xThick xSince
  · clear HC0
    go_enter Tryd.func18, Tryd.ntmps18
    go_wp2_with (go_at_call 65; refine (stackOne_ok xId xMoisture xThick xSince _ _ _ hsId (by simp) (by simp) (by simp) (by simp)).mono ?_; rintro e w1 ⟨rfl, hb⟩)
    go_ret
    exact ⟨rfl, below_chain hb (Below.refl _ _)⟩
  · have HV := hid hv
    go_enter Tryd.func18, Tryd.ntmps18
    go_wp2_with (first | (go_at_call 65; refine (stackOne_ok xId xMoisture xThick xSince _ _ _ hsId (by simp) (by simp) (by simp) (by simp)).mono ?_; rintro e w1 ⟨rfl, hb⟩; have HC := hid (HC0.out.below hb); clear HC0) | (go_at_call 66; refine (stackSText_ok xId xMoisture xThick xSince _ _ _ HV.out HC.out.1 (HC.out.2 0 _ rfl) (HC.out.2 1 _ rfl) (HC.out.2 2 _ rfl) (HC.out.2 3 _ rfl)).mono ?_; rintro e w2 ⟨rfl, hb1⟩))
    go_ret
    exact ⟨by simp [orNo], below_chain hb hb1⟩

theorem toStack_ok (xId : ByteArray) (xMoisture : Int) (xThick : Int) (xSince : Int) (w : World) :
    Calls Tryd.prog 19 #[.agg #[.string xId, .int .i64 xMoisture, .int .i64 xThick, .int .i64 xSince]] w fun e w' => e = .returned (.agg #[.string xId, .int .i64 xMoisture, .int .i64 xThick, .int .i64 xSince]) ∧ Below w.heap.size w w' := by
  go_enter Tryd.func19, Tryd.ntmps19
  go_wp2_with fail
  exact bodyPost_ret (v := .agg #[.string xId, .int .i64 xMoisture, .int .i64 xThick, .int .i64 xSince]) (by simp [results, Tryd.results19, go_sem]) rfl ⟨rfl, ((below_alloc _ _).alloc (by simp) _).alloc (by simp; omega) _⟩

theorem szStack_ok (xId : ByteArray) (xMoisture : Int) (xThick : Int) (xSince : Int) (l : Int) (w : World) (hsId : xId.size ≤ maxLen) (h0 : 0 ≤ l) (h1 : l ≤ 1048576) :
    Calls Tryd.prog 17 #[.agg #[.string xId, .int .i64 xMoisture, .int .i64 xThick, .int .i64 xSince], .int .i64 l] w fun e w' => (∃ z : Int, e = .returned (.int .i64 z)) ∧ Below w.heap.size w w' := by
  unfold maxLen at hsId
  go_enter Tryd.func17, Tryd.ntmps17
  go_wp2_with fail
  all_goals (go_ret; exact ⟨⟨_, rfl⟩, below_alloc _ _⟩)

set_option maxHeartbeats 800000 in
theorem lawStack_ok (xId : ByteArray) (xMoisture : Int) (xThick : Int) (xSince : Int) (w : World) (hsId : xId.size ≤ maxLen) (ht : Tab w) :
    Calls Tryd.prog 4 #[.agg #[.string xId, .int .i64 xMoisture, .int .i64 xThick, .int .i64 xSince]] w fun e w' => e = .returned (.bool true) ∧ Below w.heap.size w w' := by
  have HT := hid (ht.alloc (.cells [.string xId, .int .i64 xMoisture, .int .i64 xThick, .int .i64 xSince].toArray 32))
  have HH := hid (HasC.new w [.string xId, .int .i64 xMoisture, .int .i64 xThick, .int .i64 xSince] 32)
  have HB := hid (below_alloc w (.cells [.string xId, .int .i64 xMoisture, .int .i64 xThick, .int .i64 xSince].toArray 32))
  clear ht
  go_enter Tryd.func4, Tryd.ntmps4
  go_wp2_with fail
  refine (szStack_ok xId xMoisture xThick xSince _ _ hsId (by omega) (by omega)).mono ?_
  rintro e w1 ⟨⟨z, rfl⟩, hb⟩
  have H1 := hid (HH.out.below hb)
  have T1 := hid (HT.out.below hb)
  have B1 := hid (below_trans HB.out hb)
  have c0 := H1.out.2 0 _ rfl
  have c1 := H1.out.2 1 _ rfl
  have c2 := H1.out.2 2 _ rfl
  have c3 := H1.out.2 3 _ rfl
  clear hb HT HH HB
  go_wp2_with fail
  · go_ret
    exact ⟨rfl, B1.out⟩
  refine (toStack_ok xId xMoisture xThick xSince _).mono ?_
  rintro e w2 ⟨rfl, hb⟩
  have H2 := hid (H1.out.below hb)
  have T2 := hid (T1.out.below hb)
  have B2 := hid (below_trans B1.out hb)
  clear hb H1 T1 B1 c0 c1 c2 c3
  go_wp2_with fail
  refine (specStackText_ok xId xMoisture xThick xSince _ hsId).mono ?_
  rintro e w3 ⟨rfl, hb⟩
  have H3 := hid (H2.out.below hb)
  have T3 := hid (T2.out.below hb)
  have B3 := hid (below_trans B2.out hb)
  have c0 := H3.out.2 0 _ rfl
  have c1 := H3.out.2 1 _ rfl
  have c2 := H3.out.2 2 _ rfl
  have c3 := H3.out.2 3 _ rfl
  clear hb H2 T2 B2
  go_wp2_with fail
  refine (toStack_ok xId xMoisture xThick xSince _).mono ?_
  rintro e w4 ⟨rfl, hb⟩
  have T4 := hid (T3.out.below hb)
  have B4 := hid (below_trans B3.out hb)
  clear hb H3 T3 B3 c0 c1 c2 c3
  go_wp2_with fail
  refine (StackText_ok xId xMoisture xThick xSince _ hsId T4.out).mono ?_
  rintro e w5 ⟨rfl, hb⟩
  have B5 := hid (below_trans B4.out hb)
  clear hb T4 B4
  go_wp2_with fail
  go_ret
  exact ⟨by simp, B5.out⟩

end Go.Proofs.YtmfadjdpbobfhaaDoor
