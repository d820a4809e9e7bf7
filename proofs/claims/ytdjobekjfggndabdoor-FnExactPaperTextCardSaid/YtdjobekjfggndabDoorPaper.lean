/- PaperText and its reference. -/
import Derived.Test.YtdjobekjfggndabDoorDec
import Derived.Test.YtdjobekjfggndabDoorList
import Derived.Test.YtdjobekjfggndabDoorKeep
import Derived.Test.YtdjobekjfggndabDoorRange
namespace Go.Proofs.YtdjobekjfggndabDoor
open Go.RowKit
set_option linter.unusedVariables false

def paperB (xId : ByteArray) (xMaker : ByteArray) (xEarly : Int) (xLate : Int) (xTrust : Int) : Bool := nameB xId && (nameB xMaker && (decide (1500 ≤ xEarly) && (decide (xEarly ≤ xLate) && (decide (xLate ≤ 2100) && (inB xTrust 1 1000)))))

set_option maxHeartbeats 800000 in
set_option maxRecDepth 100000 in
theorem paperValid_ok (xId : ByteArray) (xMaker : ByteArray) (xEarly : Int) (xLate : Int) (xTrust : Int) (w : World) (hsId : xId.size ≤ maxLen) (hsMaker : xMaker.size ≤ maxLen) :
    Calls Tryd.prog 63 #[.agg #[.string xId, .string xMaker, .int .i64 xEarly, .int .i64 xLate, .int .i64 xTrust]] w fun e w' => e = .returned (.bool (paperB xId xMaker xEarly xLate xTrust)) ∧ Below w.heap.size w w' := by
  go_enter Tryd.func63, Tryd.ntmps63
  go_wp2_with (first | (go_at_call 96; refine (IsName_ok _ _ (by assumption)).mono ?_; rintro e w' ⟨rfl, rfl⟩) | (go_at_call 73; refine (within_ok _ _ _ _).mono ?_; rintro e w' ⟨rfl, rfl⟩))
  all_goals (go_ret; exact ⟨ret_bool (by simp [paperB, *] <;> (intros; omega)), below_alloc _ _⟩)

def paperBS (xId : ByteArray) (xMaker : ByteArray) (xEarly : Int) (xLate : Int) (xTrust : Int) : Bool := nameB xId && (nameB xMaker && (inB xEarly 1500 2100 && (inB xLate 1500 2100 && (decide (xEarly ≤ xLate) && (inB xTrust 1 1000)))))
theorem paperBS_eq (xId : ByteArray) (xMaker : ByteArray) (xEarly : Int) (xLate : Int) (xTrust : Int) : paperBS xId xMaker xEarly xLate xTrust = paperB xId xMaker xEarly xLate xTrust := by
  rw [Bool.eq_iff_iff]
  simp only [paperBS, paperB, Bool.and_eq_true, inB_iff, decide_eq_true_eq]
  constructor
  · rintro ⟨a0, a1, a2, a3, a4, a5⟩
    refine ⟨?_, ?_, ?_, ?_, ?_, ?_⟩ <;> first | assumption | omega
  · rintro ⟨a0, a1, a2, a3, a4, a5⟩
    refine ⟨?_, ?_, ?_, ?_, ?_, ?_⟩ <;> first | assumption | omega
set_option maxHeartbeats 800000 in
set_option maxRecDepth 100000 in
theorem paperOne_okS (xId : ByteArray) (xMaker : ByteArray) (xEarly : Int) (xLate : Int) (xTrust : Int) (b o : Nat) (w : World) (hsId : xId.size ≤ maxLen) (hsMaker : xMaker.size ≤ maxLen) (k0 : w.cell? ⟨b, o, none⟩ = some (.string xId)) (k1 : w.cell? ⟨b, o + 1, none⟩ = some (.string xMaker)) (k2 : w.cell? ⟨b, o + 2, none⟩ = some (.int .i64 xEarly)) (k3 : w.cell? ⟨b, o + 3, none⟩ = some (.int .i64 xLate)) (k4 : w.cell? ⟨b, o + 4, none⟩ = some (.int .i64 xTrust)) :
    Calls Tryd.prog 61 #[.pointer (some ⟨b, o, none⟩)] w fun e w' => e = .returned (.bool (paperBS xId xMaker xEarly xLate xTrust)) ∧ Below w.heap.size w w' := by
  cases h0 : nameB xId
  · have HB := hid (show paperBS xId xMaker xEarly xLate xTrust = false by simp [paperBS, h0])
    go_enter Tryd.func61, Tryd.ntmps61
    go_wp2_with fail
    go_quiet (first | (go_at_call 92; with_reducible exact quiet_left (l01Name_eq h0 _ (by assumption))))
    go_wp2_with fail
    go_ret
    exact ⟨ret_bool (HB.out.symm), below_drewN _ _⟩
  cases h1 : nameB xMaker
  · have HB := hid (show paperBS xId xMaker xEarly xLate xTrust = false by simp [paperBS, h0, h1])
    go_enter Tryd.func61, Tryd.ntmps61
    go_wp2_with fail
    go_quiet (first | (go_at_call 92; with_reducible exact quiet_left (l01Name_eq h0 _ (by assumption))) | (go_at_call 92; with_reducible exact quiet_left (l01Name_eq h1 _ (by assumption))))
    go_wp2_with fail
    go_ret
    exact ⟨ret_bool (HB.out.symm), below_drewN _ _⟩
  cases h2 : inB xEarly 1500 2100
  · have HB := hid (show paperBS xId xMaker xEarly xLate xTrust = false by simp [paperBS, h0, h1, h2])
    go_enter Tryd.func61, Tryd.ntmps61
    go_wp2_with fail
    go_quiet (first | (go_at_call 92; with_reducible exact quiet_left (l01Name_eq h0 _ (by assumption))) | (go_at_call 92; with_reducible exact quiet_left (l01Name_eq h1 _ (by assumption))) | (go_at_call 107; with_reducible exact quiet_left (l20Year_eq h2 _)))
    go_wp2_with fail
    go_ret
    exact ⟨ret_bool (HB.out.symm), below_drewN _ _⟩
  obtain ⟨bl2, bu2⟩ := inB_iff.1 h2
  cases h3 : inB xLate 1500 2100
  · have HB := hid (show paperBS xId xMaker xEarly xLate xTrust = false by simp [paperBS, h0, h1, h2, h3])
    go_enter Tryd.func61, Tryd.ntmps61
    go_wp2_with fail
    go_quiet (first | (go_at_call 92; with_reducible exact quiet_left (l01Name_eq h0 _ (by assumption))) | (go_at_call 92; with_reducible exact quiet_left (l01Name_eq h1 _ (by assumption))) | (go_at_call 107; with_reducible exact quiet_left (l20Year_eq h2 _)) | (go_at_call 107; with_reducible exact quiet_left (l20Year_eq h3 _)))
    go_wp2_with fail
    go_ret
    exact ⟨ret_bool (HB.out.symm), below_drewN _ _⟩
  obtain ⟨bl3, bu3⟩ := inB_iff.1 h3
  cases h4 : decide (xEarly ≤ xLate)
  · have HB := hid (show paperBS xId xMaker xEarly xLate xTrust = false by simp [paperBS, h0, h1, h2, h3, h4])
    go_enter Tryd.func61, Tryd.ntmps61
    go_wp2_with fail
    go_quiet (first | (go_at_call 92; with_reducible exact quiet_left (l01Name_eq h0 _ (by assumption))) | (go_at_call 92; with_reducible exact quiet_left (l01Name_eq h1 _ (by assumption))) | (go_at_call 107; with_reducible exact quiet_left (l20Year_eq h2 _)) | (go_at_call 107; with_reducible exact quiet_left (l20Year_eq h3 _)))
    go_wp2_with fail
    go_ret
    exact ⟨ret_bool (HB.out.symm), below_drewN _ _⟩
  cases h5 : inB xTrust 1 1000
  · have HB := hid (show paperBS xId xMaker xEarly xLate xTrust = false by simp [paperBS, h0, h1, h2, h3, h4, h5])
    go_enter Tryd.func61, Tryd.ntmps61
    go_wp2_with fail
    go_quiet (first | (go_at_call 92; with_reducible exact quiet_left (l01Name_eq h0 _ (by assumption))) | (go_at_call 92; with_reducible exact quiet_left (l01Name_eq h1 _ (by assumption))) | (go_at_call 107; with_reducible exact quiet_left (l20Year_eq h2 _)) | (go_at_call 107; with_reducible exact quiet_left (l20Year_eq h3 _)) | (go_at_call 68; with_reducible exact quiet_left (l00In_eq h5 _)))
    go_wp2_with fail
    go_ret
    exact ⟨ret_bool (HB.out.symm), below_drewN _ _⟩
  obtain ⟨bl5, bu5⟩ := inB_iff.1 h5
  have HB := hid (show paperBS xId xMaker xEarly xLate xTrust = true by simp [paperBS, h0, h1, h2, h3, h4, h5])
  go_enter Tryd.func61, Tryd.ntmps61
  go_wp2_with fail
  go_quiet (first | (go_at_call 92; with_reducible exact quiet_left (l01Name_eq h0 _ (by assumption))) | (go_at_call 92; with_reducible exact quiet_left (l01Name_eq h1 _ (by assumption))) | (go_at_call 107; with_reducible exact quiet_left (l20Year_eq h2 _)) | (go_at_call 107; with_reducible exact quiet_left (l20Year_eq h3 _)) | (go_at_call 68; with_reducible exact quiet_left (l00In_eq h5 _)))
  go_wp2_with fail
  go_ret
  exact ⟨ret_bool (HB.out.symm), below_drewN _ _⟩

theorem paperOne_ok (xId : ByteArray) (xMaker : ByteArray) (xEarly : Int) (xLate : Int) (xTrust : Int) (b o : Nat) (w : World) (hsId : xId.size ≤ maxLen) (hsMaker : xMaker.size ≤ maxLen) (k0 : w.cell? ⟨b, o, none⟩ = some (.string xId)) (k1 : w.cell? ⟨b, o + 1, none⟩ = some (.string xMaker)) (k2 : w.cell? ⟨b, o + 2, none⟩ = some (.int .i64 xEarly)) (k3 : w.cell? ⟨b, o + 3, none⟩ = some (.int .i64 xLate)) (k4 : w.cell? ⟨b, o + 4, none⟩ = some (.int .i64 xTrust)) :
    Calls Tryd.prog 61 #[.pointer (some ⟨b, o, none⟩)] w fun e w' => e = .returned (.bool (paperB xId xMaker xEarly xLate xTrust)) ∧ Below w.heap.size w w' := by
  rw [← paperBS_eq]
  exact paperOne_okS xId xMaker xEarly xLate xTrust b o w hsId hsMaker k0 k1 k2 k3 k4

theorem paperB_bd {xId xMaker : ByteArray} {xEarly xLate xTrust : Int} (h : paperB xId xMaker xEarly xLate xTrust = true) : xId.size ≤ 10 ∧ xMaker.size ≤ 10 ∧ 0 ≤ xEarly ∧ xEarly ≤ 10000000 ∧ 0 ≤ xLate ∧ xLate ≤ 10000000 ∧ 0 ≤ xTrust ∧ xTrust ≤ 10000000 := by
  simp only [paperB, Bool.and_eq_true, inB_iff, decide_eq_true_eq] at h
  obtain ⟨a0, a1, a2, a3, a4, a5⟩ := h
  refine ⟨name_size a0, name_size a1, by omega, by omega, by omega, by omega, by omega, by omega⟩

/-- the text -/
def paperT (xId : ByteArray) (xMaker : ByteArray) (xEarly : Int) (xLate : Int) (xTrust : Int) : ByteArray := xId ++ ⟨#[32]⟩ ++ (xMaker ++ ⟨#[32]⟩ ++ listT [xEarly, xLate, xTrust])

theorem first_intsPaper {w : World} {A : Option Addr} {ns : List Int} (h : IntsAt w A ns) : IntsAt w A ns := h
set_option maxHeartbeats 800000 in
set_option maxRecDepth 100000 in
theorem PaperText_ok (xId : ByteArray) (xMaker : ByteArray) (xEarly : Int) (xLate : Int) (xTrust : Int) (w : World) (hsId : xId.size ≤ maxLen) (hsMaker : xMaker.size ≤ maxLen) (ht : Tab w) :
    Calls Tryd.prog 27 #[.agg #[.string xId, .string xMaker, .int .i64 xEarly, .int .i64 xLate, .int .i64 xTrust]] w fun e w' => e = .returned (.string (orNo (paperB xId xMaker xEarly xLate xTrust) (paperT xId xMaker xEarly xLate xTrust))) ∧ Below w.heap.size w w' := by
  cases hv : paperB xId xMaker xEarly xLate xTrust
  · go_enter Tryd.func27, Tryd.ntmps27
    go_wp2_with (go_at_call 63; refine (paperValid_ok _ _ _ _ _ _ hsId hsMaker).mono ?_; rintro e w1 ⟨rfl, hb⟩)
    go_ret
    exact ⟨rfl, below_chain hb (Below.refl _ _)⟩
  · obtain ⟨zId, zMaker, lEarly, uEarly, lLate, uLate, lTrust, uTrust⟩ := paperB_bd hv
    have HC0 := hid (HasC.new w [.string xId, .string xMaker, .int .i64 xEarly, .int .i64 xLate, .int .i64 xTrust] 47)
    have HT := hid (ht.alloc (.cells [.string xId, .string xMaker, .int .i64 xEarly, .int .i64 xLate, .int .i64 xTrust].toArray 47))
    have hsm := hid (show Small [xEarly, xLate, xTrust] from ⟨by simp, by intro n hn; simp at hn; omega⟩)
    have hsz : (listT [xEarly, xLate, xTrust]).size ≤ 1344 := listT_size hsm.out
    have g1 : ¬ 9223372036854775807 < xId.size + 1 := by omega
    have g2 : ¬ 9223372036854775807 < xId.size + 1 + (xMaker.size + 1 + (listT [xEarly, xLate, xTrust]).size) := by omega
    clear ht
    go_enter Tryd.func27, Tryd.ntmps27
    go_wp2_with (go_at_call 63; refine (paperValid_ok _ _ _ _ _ _ hsId hsMaker).mono ?_; rintro e w1 ⟨rfl, hb⟩; have HC := hid (HC0.out.below hb); have k0 : w1.cell? ⟨w.heap.size, 0, none⟩ = some (.string xId) := HC.out.2 0 _ rfl; have k1 : w1.cell? ⟨w.heap.size, 1, none⟩ = some (.string xMaker) := HC.out.2 1 _ rfl; have k2 : w1.cell? ⟨w.heap.size, 2, none⟩ = some (.int .i64 xEarly) := HC.out.2 2 _ rfl; have k3 : w1.cell? ⟨w.heap.size, 3, none⟩ = some (.int .i64 xLate) := HC.out.2 3 _ rfl; have k4 : w1.cell? ⟨w.heap.size, 4, none⟩ = some (.int .i64 xTrust) := HC.out.2 4 _ rfl; have hlt : w.heap.size < w1.heap.size := HC.out.1; have ht1 : Tab w1 := HT.out.below hb; clear HC HC0 HT)
    go_region_held3 (fun w' => (Tab w' ∧ Below w1.heap.size w1 w') ∧ w'.cell? ⟨w.heap.size, 0, none⟩ = some (.string xId) ∧ w'.cell? ⟨w.heap.size, 1, none⟩ = some (.string xMaker) ∧ w'.cell? ⟨w.heap.size, 2, none⟩ = some (.int .i64 xEarly) ∧ w'.cell? ⟨w.heap.size, 3, none⟩ = some (.int .i64 xLate) ∧ w'.cell? ⟨w.heap.size, 4, none⟩ = some (.int .i64 xTrust))
      (first | exact ⟨⟨ht1.drew, (Below.refl _ _).drew⟩, k0, k1, k2, k3, k4⟩ | exact keepT5 hlt ‹_ ∧ _› (below_alloc _ _) | exact keepT5 hlt ‹_ ∧ _› ‹Below _ _ _›)
      (first | (go_at_call 54; refine (named_ok _ _ _ [xEarly, xLate, xTrust] _ zMaker (And.left (And.left ‹(Tab _ ∧ _) ∧ _›)) (first_intsPaper (by first | exact IntsAt.new _ [xEarly, xLate, xTrust] _ | exact (IntsAt.new _ [xEarly, xLate, xTrust] _).drew)) hsm.out).mono ?_; rintro e w2 ⟨rfl, hb2⟩))
    go_wp2_with fail
    go_ret
    obtain ⟨⟨_, hB⟩, _⟩ := ‹(Tab _ ∧ _) ∧ _›
    exact ⟨by simp [paperT, orNo], below_chain hb hB⟩

set_option maxHeartbeats 800000 in
set_option maxRecDepth 100000 in
theorem paperSText_ok (xId : ByteArray) (xMaker : ByteArray) (xEarly : Int) (xLate : Int) (xTrust : Int) (b o : Nat) (w : World) (hv : paperB xId xMaker xEarly xLate xTrust = true) (hlt : b < w.heap.size) (k0 : w.cell? ⟨b, o, none⟩ = some (.string xId)) (k1 : w.cell? ⟨b, o + 1, none⟩ = some (.string xMaker)) (k2 : w.cell? ⟨b, o + 2, none⟩ = some (.int .i64 xEarly)) (k3 : w.cell? ⟨b, o + 3, none⟩ = some (.int .i64 xLate)) (k4 : w.cell? ⟨b, o + 4, none⟩ = some (.int .i64 xTrust)) :
    Calls Tryd.prog 62 #[.pointer (some ⟨b, o, none⟩)] w fun e w' => e = .returned (.string (paperT xId xMaker xEarly xLate xTrust)) ∧ Below w.heap.size w w' := by
  · obtain ⟨zId, zMaker, lEarly, uEarly, lLate, uLate, lTrust, uTrust⟩ := paperB_bd hv
    have hsm := hid (show Small [xEarly, xLate, xTrust] from ⟨by simp, by intro n hn; simp at hn; omega⟩)
    have hsz : (listT [xEarly, xLate, xTrust]).size ≤ 1344 := listT_size hsm.out
    have g1 : ¬ 9223372036854775807 < xId.size + 1 := by omega
    have g2 : ¬ 9223372036854775807 < xId.size + 1 + xMaker.size := by omega
    have g3 : ¬ 9223372036854775807 < xId.size + 1 + xMaker.size + 1 := by omega
    have g4 : ¬ 9223372036854775807 < xId.size + 1 + xMaker.size + 1 + (listT [xEarly, xLate, xTrust]).size := by omega
    clear hv
    go_enter Tryd.func62, Tryd.ntmps62
    go_wp2_with fail
    go_region_held3 (fun w' => (True ∧ Below w.heap.size w w') ∧ w'.cell? ⟨b, o, none⟩ = some (.string xId) ∧ w'.cell? ⟨b, o + 1, none⟩ = some (.string xMaker) ∧ w'.cell? ⟨b, o + 2, none⟩ = some (.int .i64 xEarly) ∧ w'.cell? ⟨b, o + 3, none⟩ = some (.int .i64 xLate) ∧ w'.cell? ⟨b, o + 4, none⟩ = some (.int .i64 xTrust))
      (first | exact ⟨⟨trivial, (Below.refl _ _).drew⟩, k0, k1, k2, k3, k4⟩ | exact keepN5 hlt ‹_ ∧ _› (below_alloc _ _) | exact keepN5 hlt ‹_ ∧ _› ‹Below _ _ _›)
      (first | (go_at_call 95; refine (l01List_ok _ _ [xEarly, xLate, xTrust] _ (first_intsPaper (by first | exact IntsAt.new _ [xEarly, xLate, xTrust] _ | exact (IntsAt.new _ [xEarly, xLate, xTrust] _).drew)) hsm.out (by intro n hn; simp at hn; omega)).mono ?_; rintro e w2 ⟨rfl, hb2⟩))
    go_wp2_with fail
    go_ret
    obtain ⟨⟨_, hB⟩, _⟩ := ‹(_ ∧ Below _ _ _) ∧ _›
    exact ⟨by simp [paperT, ByteArray.append_assoc], hB⟩

theorem specPaperText_ok (xId : ByteArray) (xMaker : ByteArray) (xEarly : Int) (xLate : Int) (xTrust : Int) (w : World) (hsId : xId.size ≤ maxLen) (hsMaker : xMaker.size ≤ maxLen) :
    Calls Tryd.prog 25 #[.agg #[.string xId, .string xMaker, .int .i64 xEarly, .int .i64 xLate, .int .i64 xTrust]] w fun e w' => e = .returned (.string (orNo (paperB xId xMaker xEarly xLate xTrust) (paperT xId xMaker xEarly xLate xTrust))) ∧ Below w.heap.size w w' := by
  have HC0 := hid (HasC.new w [.string xId, .string xMaker, .int .i64 xEarly, .int .i64 xLate, .int .i64 xTrust] 47)
  cases hv : paperB xId xMaker xEarly xLate xTrust
  · clear HC0
    go_enter Tryd.func25, Tryd.ntmps25
    go_wp2_with (go_at_call 61; refine (paperOne_ok xId xMaker xEarly xLate xTrust _ _ _ hsId hsMaker (by simp) (by simp) (by simp) (by simp) (by simp)).mono ?_; rintro e w1 ⟨rfl, hb⟩)
    go_ret
    exact ⟨rfl, below_chain hb (Below.refl _ _)⟩
  · have HV := hid hv
    go_enter Tryd.func25, Tryd.ntmps25
    go_wp2_with (first | (go_at_call 61; refine (paperOne_ok xId xMaker xEarly xLate xTrust _ _ _ hsId hsMaker (by simp) (by simp) (by simp) (by simp) (by simp)).mono ?_; rintro e w1 ⟨rfl, hb⟩; have HC := hid (HC0.out.below hb); clear HC0) | (go_at_call 62; refine (paperSText_ok xId xMaker xEarly xLate xTrust _ _ _ HV.out HC.out.1 (HC.out.2 0 _ rfl) (HC.out.2 1 _ rfl) (HC.out.2 2 _ rfl) (HC.out.2 3 _ rfl) (HC.out.2 4 _ rfl)).mono ?_; rintro e w2 ⟨rfl, hb1⟩))
    go_ret
    exact ⟨by simp [orNo], below_chain hb hb1⟩

theorem toPaper_ok (xId : ByteArray) (xMaker : ByteArray) (xEarly : Int) (xLate : Int) (xTrust : Int) (w : World) :
    Calls Tryd.prog 26 #[.agg #[.string xId, .string xMaker, .int .i64 xEarly, .int .i64 xLate, .int .i64 xTrust]] w fun e w' => e = .returned (.agg #[.string xId, .string xMaker, .int .i64 xEarly, .int .i64 xLate, .int .i64 xTrust]) ∧ Below w.heap.size w w' := by
  go_enter Tryd.func26, Tryd.ntmps26
  go_wp2_with fail
  exact bodyPost_ret (v := .agg #[.string xId, .string xMaker, .int .i64 xEarly, .int .i64 xLate, .int .i64 xTrust]) (by simp [results, Tryd.results26, go_sem]) rfl ⟨rfl, ((below_alloc _ _).alloc (by simp) _).alloc (by simp; omega) _⟩

theorem szPaper_ok (xId : ByteArray) (xMaker : ByteArray) (xEarly : Int) (xLate : Int) (xTrust : Int) (l : Int) (w : World) (hsId : xId.size ≤ maxLen) (hsMaker : xMaker.size ≤ maxLen) (h0 : 0 ≤ l) (h1 : l ≤ 1048576) :
    Calls Tryd.prog 24 #[.agg #[.string xId, .string xMaker, .int .i64 xEarly, .int .i64 xLate, .int .i64 xTrust], .int .i64 l] w fun e w' => (∃ z : Int, e = .returned (.int .i64 z)) ∧ Below w.heap.size w w' := by
  unfold maxLen at hsId hsMaker
  go_enter Tryd.func24, Tryd.ntmps24
  go_wp2_with fail
  all_goals (go_ret; exact ⟨⟨_, rfl⟩, below_alloc _ _⟩)

set_option maxHeartbeats 800000 in
theorem lawPaper_ok (xId : ByteArray) (xMaker : ByteArray) (xEarly : Int) (xLate : Int) (xTrust : Int) (w : World) (hsId : xId.size ≤ maxLen) (hsMaker : xMaker.size ≤ maxLen) (ht : Tab w) :
    Calls Tryd.prog 6 #[.agg #[.string xId, .string xMaker, .int .i64 xEarly, .int .i64 xLate, .int .i64 xTrust]] w fun e w' => e = .returned (.bool true) ∧ Below w.heap.size w w' := by
  have HT := hid (ht.alloc (.cells [.string xId, .string xMaker, .int .i64 xEarly, .int .i64 xLate, .int .i64 xTrust].toArray 44))
  have HH := hid (HasC.new w [.string xId, .string xMaker, .int .i64 xEarly, .int .i64 xLate, .int .i64 xTrust] 44)
  have HB := hid (below_alloc w (.cells [.string xId, .string xMaker, .int .i64 xEarly, .int .i64 xLate, .int .i64 xTrust].toArray 44))
  clear ht
  go_enter Tryd.func6, Tryd.ntmps6
  go_wp2_with fail
  refine (szPaper_ok xId xMaker xEarly xLate xTrust _ _ hsId hsMaker (by omega) (by omega)).mono ?_
  rintro e w1 ⟨⟨z, rfl⟩, hb⟩
  have H1 := hid (HH.out.below hb)
  have T1 := hid (HT.out.below hb)
  have B1 := hid (below_trans HB.out hb)
  have c0 := H1.out.2 0 _ rfl
  have c1 := H1.out.2 1 _ rfl
  have c2 := H1.out.2 2 _ rfl
  have c3 := H1.out.2 3 _ rfl
  have c4 := H1.out.2 4 _ rfl
  clear hb HT HH HB
  go_wp2_with fail
  · go_ret
    exact ⟨rfl, B1.out⟩
  refine (toPaper_ok xId xMaker xEarly xLate xTrust _).mono ?_
  rintro e w2 ⟨rfl, hb⟩
  have H2 := hid (H1.out.below hb)
  have T2 := hid (T1.out.below hb)
  have B2 := hid (below_trans B1.out hb)
  clear hb H1 T1 B1 c0 c1 c2 c3 c4
  go_wp2_with fail
  refine (specPaperText_ok xId xMaker xEarly xLate xTrust _ hsId hsMaker).mono ?_
  rintro e w3 ⟨rfl, hb⟩
  have H3 := hid (H2.out.below hb)
  have T3 := hid (T2.out.below hb)
  have B3 := hid (below_trans B2.out hb)
  have c0 := H3.out.2 0 _ rfl
  have c1 := H3.out.2 1 _ rfl
  have c2 := H3.out.2 2 _ rfl
  have c3 := H3.out.2 3 _ rfl
  have c4 := H3.out.2 4 _ rfl
  clear hb H2 T2 B2
  go_wp2_with fail
  refine (toPaper_ok xId xMaker xEarly xLate xTrust _).mono ?_
  rintro e w4 ⟨rfl, hb⟩
  have T4 := hid (T3.out.below hb)
  have B4 := hid (below_trans B3.out hb)
  clear hb H3 T3 B3 c0 c1 c2 c3 c4
  go_wp2_with fail
  refine (PaperText_ok xId xMaker xEarly xLate xTrust _ hsId hsMaker T4.out).mono ?_
  rintro e w5 ⟨rfl, hb⟩
  have B5 := hid (below_trans B4.out hb)
  clear hb T4 B4
  go_wp2_with fail
  go_ret
  exact ⟨by simp, B5.out⟩

end Go.Proofs.YtdjobekjfggndabDoor
