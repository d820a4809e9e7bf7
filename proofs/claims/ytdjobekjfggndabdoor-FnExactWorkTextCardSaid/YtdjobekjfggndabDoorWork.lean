/- WorkText and its reference. -/
import Derived.Test.YtdjobekjfggndabDoorDec
import Derived.Test.YtdjobekjfggndabDoorList
import Derived.Test.YtdjobekjfggndabDoorKeep
import Derived.Test.YtdjobekjfggndabDoorRange
namespace Go.Proofs.YtdjobekjfggndabDoor
open Go.RowKit
set_option linter.unusedVariables false

def workB (xId : ByteArray) (xDays : Int) (xFirst : Int) (xLast : Int) : Bool := nameB xId && (inB xDays 1 40 && (inB xFirst 0 39 && (inB xLast 0 39 && (decide (xFirst + xDays - 1 ≤ xLast)))))

set_option maxHeartbeats 800000 in
set_option maxRecDepth 100000 in
theorem workValid_ok (xId : ByteArray) (xDays : Int) (xFirst : Int) (xLast : Int) (w : World) (hsId : xId.size ≤ maxLen) :
    Calls Tryd.prog 53 #[.agg #[.string xId, .int .i64 xDays, .int .i64 xFirst, .int .i64 xLast]] w fun e w' => e = .returned (.bool (workB xId xDays xFirst xLast)) ∧ Below w.heap.size w w' := by
  cases h0 : nameB xId
  · have HB := hid (show workB xId xDays xFirst xLast = false by simp [workB, h0])
    go_enter Tryd.func53, Tryd.ntmps53
    go_wp2_with (first | (go_at_call 96; refine (IsName_ok _ _ (by assumption)).mono ?_; rintro e w' ⟨rfl, rfl⟩) | (go_at_call 97; refine (isSpan_ok _ _).mono ?_; rintro e w' ⟨rfl, rfl⟩) | (go_at_call 98; refine (isDate_ok _ _).mono ?_; rintro e w' ⟨rfl, rfl⟩))
    go_ret
    exact ⟨ret_bool (by first | exact HB.out.symm | (rw [HB.out]; simp [*])), below_alloc _ _⟩
  cases h1 : inB xDays 1 40
  · have HB := hid (show workB xId xDays xFirst xLast = false by simp [workB, h0, h1])
    go_enter Tryd.func53, Tryd.ntmps53
    go_wp2_with (first | (go_at_call 96; refine (IsName_ok _ _ (by assumption)).mono ?_; rintro e w' ⟨rfl, rfl⟩) | (go_at_call 97; refine (isSpan_ok _ _).mono ?_; rintro e w' ⟨rfl, rfl⟩) | (go_at_call 98; refine (isDate_ok _ _).mono ?_; rintro e w' ⟨rfl, rfl⟩))
    go_ret
    exact ⟨ret_bool (by first | exact HB.out.symm | (rw [HB.out]; simp [*])), below_alloc _ _⟩
  obtain ⟨bl1, bu1⟩ := inB_iff.1 h1
  cases h2 : inB xFirst 0 39
  · have HB := hid (show workB xId xDays xFirst xLast = false by simp [workB, h0, h1, h2])
    go_enter Tryd.func53, Tryd.ntmps53
    go_wp2_with (first | (go_at_call 96; refine (IsName_ok _ _ (by assumption)).mono ?_; rintro e w' ⟨rfl, rfl⟩) | (go_at_call 97; refine (isSpan_ok _ _).mono ?_; rintro e w' ⟨rfl, rfl⟩) | (go_at_call 98; refine (isDate_ok _ _).mono ?_; rintro e w' ⟨rfl, rfl⟩))
    go_ret
    exact ⟨ret_bool (by first | exact HB.out.symm | (rw [HB.out]; simp [*])), below_alloc _ _⟩
  obtain ⟨bl2, bu2⟩ := inB_iff.1 h2
  cases h3 : inB xLast 0 39
  · have HB := hid (show workB xId xDays xFirst xLast = false by simp [workB, h0, h1, h2, h3])
    go_enter Tryd.func53, Tryd.ntmps53
    go_wp2_with (first | (go_at_call 96; refine (IsName_ok _ _ (by assumption)).mono ?_; rintro e w' ⟨rfl, rfl⟩) | (go_at_call 97; refine (isSpan_ok _ _).mono ?_; rintro e w' ⟨rfl, rfl⟩) | (go_at_call 98; refine (isDate_ok _ _).mono ?_; rintro e w' ⟨rfl, rfl⟩))
    go_ret
    exact ⟨ret_bool (by first | exact HB.out.symm | (rw [HB.out]; simp [*])), below_alloc _ _⟩
  obtain ⟨bl3, bu3⟩ := inB_iff.1 h3
  cases h4 : decide (xFirst + xDays - 1 ≤ xLast)
  · have HB := hid (show workB xId xDays xFirst xLast = false by simp [workB, h0, h1, h2, h3, h4])
    go_enter Tryd.func53, Tryd.ntmps53
    go_wp2_with (first | (go_at_call 96; refine (IsName_ok _ _ (by assumption)).mono ?_; rintro e w' ⟨rfl, rfl⟩) | (go_at_call 97; refine (isSpan_ok _ _).mono ?_; rintro e w' ⟨rfl, rfl⟩) | (go_at_call 98; refine (isDate_ok _ _).mono ?_; rintro e w' ⟨rfl, rfl⟩))
    go_ret
    exact ⟨ret_bool (by first | exact HB.out.symm | (rw [HB.out]; simp [*])), below_alloc _ _⟩
  have HB := hid (show workB xId xDays xFirst xLast = true by simp [workB, h0, h1, h2, h3, h4])
  go_enter Tryd.func53, Tryd.ntmps53
  go_wp2_with (first | (go_at_call 96; refine (IsName_ok _ _ (by assumption)).mono ?_; rintro e w' ⟨rfl, rfl⟩) | (go_at_call 97; refine (isSpan_ok _ _).mono ?_; rintro e w' ⟨rfl, rfl⟩) | (go_at_call 98; refine (isDate_ok _ _).mono ?_; rintro e w' ⟨rfl, rfl⟩))
  go_ret
  exact ⟨ret_bool (by first | exact HB.out.symm | (rw [HB.out]; simp [*])), below_alloc _ _⟩

set_option maxHeartbeats 800000 in
set_option maxRecDepth 100000 in
theorem workOne_ok (xId : ByteArray) (xDays : Int) (xFirst : Int) (xLast : Int) (b o : Nat) (w : World) (hsId : xId.size ≤ maxLen) (k0 : w.cell? ⟨b, o, none⟩ = some (.string xId)) (k1 : w.cell? ⟨b, o + 1, none⟩ = some (.int .i64 xDays)) (k2 : w.cell? ⟨b, o + 2, none⟩ = some (.int .i64 xFirst)) (k3 : w.cell? ⟨b, o + 3, none⟩ = some (.int .i64 xLast)) :
    Calls Tryd.prog 51 #[.pointer (some ⟨b, o, none⟩)] w fun e w' => e = .returned (.bool (workB xId xDays xFirst xLast)) ∧ Below w.heap.size w w' := by
  cases h0 : nameB xId
  · have HB := hid (show workB xId xDays xFirst xLast = false by simp [workB, h0])
    go_enter Tryd.func51, Tryd.ntmps51
    go_wp2_with fail
    go_quiet (first | (go_at_call 92; with_reducible exact quiet_left (l01Name_eq h0 _ (by assumption))))
    go_wp2_with fail
    go_ret
    exact ⟨ret_bool (HB.out.symm), below_drewN _ _⟩
  cases h1 : inB xDays 1 40
  · have HB := hid (show workB xId xDays xFirst xLast = false by simp [workB, h0, h1])
    go_enter Tryd.func51, Tryd.ntmps51
    go_wp2_with fail
    go_quiet (first | (go_at_call 92; with_reducible exact quiet_left (l01Name_eq h0 _ (by assumption))) | (go_at_call 93; with_reducible exact quiet_left (l18Days_eq h1 _)))
    go_wp2_with fail
    go_ret
    exact ⟨ret_bool (HB.out.symm), below_drewN _ _⟩
  obtain ⟨bl1, bu1⟩ := inB_iff.1 h1
  cases h2 : inB xFirst 0 39
  · have HB := hid (show workB xId xDays xFirst xLast = false by simp [workB, h0, h1, h2])
    go_enter Tryd.func51, Tryd.ntmps51
    go_wp2_with fail
    go_quiet (first | (go_at_call 92; with_reducible exact quiet_left (l01Name_eq h0 _ (by assumption))) | (go_at_call 93; with_reducible exact quiet_left (l18Days_eq h1 _)) | (go_at_call 94; with_reducible exact quiet_left (l18Day_eq h2 _)))
    go_wp2_with fail
    go_ret
    exact ⟨ret_bool (HB.out.symm), below_drewN _ _⟩
  obtain ⟨bl2, bu2⟩ := inB_iff.1 h2
  cases h3 : inB xLast 0 39
  · have HB := hid (show workB xId xDays xFirst xLast = false by simp [workB, h0, h1, h2, h3])
    go_enter Tryd.func51, Tryd.ntmps51
    go_wp2_with fail
    go_quiet (first | (go_at_call 92; with_reducible exact quiet_left (l01Name_eq h0 _ (by assumption))) | (go_at_call 93; with_reducible exact quiet_left (l18Days_eq h1 _)) | (go_at_call 94; with_reducible exact quiet_left (l18Day_eq h2 _)) | (go_at_call 94; with_reducible exact quiet_left (l18Day_eq h3 _)))
    go_wp2_with fail
    go_ret
    exact ⟨ret_bool (HB.out.symm), below_drewN _ _⟩
  obtain ⟨bl3, bu3⟩ := inB_iff.1 h3
  cases h4 : decide (xFirst + xDays - 1 ≤ xLast)
  · have HB := hid (show workB xId xDays xFirst xLast = false by simp [workB, h0, h1, h2, h3, h4])
    go_enter Tryd.func51, Tryd.ntmps51
    go_wp2_with fail
    go_quiet (first | (go_at_call 92; with_reducible exact quiet_left (l01Name_eq h0 _ (by assumption))) | (go_at_call 93; with_reducible exact quiet_left (l18Days_eq h1 _)) | (go_at_call 94; with_reducible exact quiet_left (l18Day_eq h2 _)) | (go_at_call 94; with_reducible exact quiet_left (l18Day_eq h3 _)))
    go_wp2_with fail
    go_ret
    exact ⟨ret_bool (HB.out.symm), below_drewN _ _⟩
  have HB := hid (show workB xId xDays xFirst xLast = true by simp [workB, h0, h1, h2, h3, h4])
  go_enter Tryd.func51, Tryd.ntmps51
  go_wp2_with fail
  go_quiet (first | (go_at_call 92; with_reducible exact quiet_left (l01Name_eq h0 _ (by assumption))) | (go_at_call 93; with_reducible exact quiet_left (l18Days_eq h1 _)) | (go_at_call 94; with_reducible exact quiet_left (l18Day_eq h2 _)) | (go_at_call 94; with_reducible exact quiet_left (l18Day_eq h3 _)))
  go_wp2_with fail
  go_ret
  exact ⟨ret_bool (HB.out.symm), below_drewN _ _⟩

theorem workB_bd {xId : ByteArray} {xDays xFirst xLast : Int} (h : workB xId xDays xFirst xLast = true) : xId.size ≤ 10 ∧ 0 ≤ xDays ∧ xDays ≤ 10000000 ∧ 0 ≤ xFirst ∧ xFirst ≤ 10000000 ∧ 0 ≤ xLast ∧ xLast ≤ 10000000 := by
  simp only [workB, Bool.and_eq_true, inB_iff, decide_eq_true_eq] at h
  obtain ⟨a0, a1, a2, a3, a4⟩ := h
  refine ⟨name_size a0, by omega, by omega, by omega, by omega, by omega, by omega⟩

/-- the text -/
def workT (xId : ByteArray) (xDays : Int) (xFirst : Int) (xLast : Int) : ByteArray := xId ++ ⟨#[32]⟩ ++ listT [xDays, xFirst, xLast]

theorem first_intsWork {w : World} {A : Option Addr} {ns : List Int} (h : IntsAt w A ns) : IntsAt w A ns := h
set_option maxHeartbeats 800000 in
set_option maxRecDepth 100000 in
theorem WorkText_ok (xId : ByteArray) (xDays : Int) (xFirst : Int) (xLast : Int) (w : World) (hsId : xId.size ≤ maxLen) (ht : Tab w) :
    Calls Tryd.prog 15 #[.agg #[.string xId, .int .i64 xDays, .int .i64 xFirst, .int .i64 xLast]] w fun e w' => e = .returned (.string (orNo (workB xId xDays xFirst xLast) (workT xId xDays xFirst xLast))) ∧ Below w.heap.size w w' := by
  cases hv : workB xId xDays xFirst xLast
  · go_enter Tryd.func15, Tryd.ntmps15
    go_wp2_with (go_at_call 53; refine (workValid_ok _ _ _ _ _ hsId).mono ?_; rintro e w1 ⟨rfl, hb⟩)
    go_ret
    exact ⟨rfl, below_chain hb (Below.refl _ _)⟩
  · obtain ⟨zId, lDays, uDays, lFirst, uFirst, lLast, uLast⟩ := workB_bd hv
    have HC0 := hid (HasC.new w [.string xId, .int .i64 xDays, .int .i64 xFirst, .int .i64 xLast] 26)
    have HT := hid (ht.alloc (.cells [.string xId, .int .i64 xDays, .int .i64 xFirst, .int .i64 xLast].toArray 26))
    have hsm := hid (show Small [xDays, xFirst, xLast] from ⟨by simp, by intro n hn; simp at hn; omega⟩)
    have hsz : (listT [xDays, xFirst, xLast]).size ≤ 1344 := listT_size hsm.out
    clear ht
    go_enter Tryd.func15, Tryd.ntmps15
    go_wp2_with (go_at_call 53; refine (workValid_ok _ _ _ _ _ hsId).mono ?_; rintro e w1 ⟨rfl, hb⟩; have HC := hid (HC0.out.below hb); have k0 : w1.cell? ⟨w.heap.size, 0, none⟩ = some (.string xId) := HC.out.2 0 _ rfl; have k1 : w1.cell? ⟨w.heap.size, 1, none⟩ = some (.int .i64 xDays) := HC.out.2 1 _ rfl; have k2 : w1.cell? ⟨w.heap.size, 2, none⟩ = some (.int .i64 xFirst) := HC.out.2 2 _ rfl; have k3 : w1.cell? ⟨w.heap.size, 3, none⟩ = some (.int .i64 xLast) := HC.out.2 3 _ rfl; have hlt : w.heap.size < w1.heap.size := HC.out.1; have ht1 : Tab w1 := HT.out.below hb; clear HC HC0 HT)
    go_wp2_with (go_at_call 54; refine (named_ok _ _ _ [xDays, xFirst, xLast] _ zId (ht1.alloc _) (IntsAt.new w1 [xDays, xFirst, xLast] _) hsm.out).mono ?_; rintro e w2 ⟨rfl, hb2⟩)
    go_ret
    exact ⟨by simp [workT, orNo], below_chain hb (below_trans (below_alloc _ _) hb2)⟩

set_option maxHeartbeats 800000 in
set_option maxRecDepth 100000 in
theorem workSText_ok (xId : ByteArray) (xDays : Int) (xFirst : Int) (xLast : Int) (b o : Nat) (w : World) (hv : workB xId xDays xFirst xLast = true) (hlt : b < w.heap.size) (k0 : w.cell? ⟨b, o, none⟩ = some (.string xId)) (k1 : w.cell? ⟨b, o + 1, none⟩ = some (.int .i64 xDays)) (k2 : w.cell? ⟨b, o + 2, none⟩ = some (.int .i64 xFirst)) (k3 : w.cell? ⟨b, o + 3, none⟩ = some (.int .i64 xLast)) :
    Calls Tryd.prog 52 #[.pointer (some ⟨b, o, none⟩)] w fun e w' => e = .returned (.string (workT xId xDays xFirst xLast)) ∧ Below w.heap.size w w' := by
  · obtain ⟨zId, lDays, uDays, lFirst, uFirst, lLast, uLast⟩ := workB_bd hv
    have hsm := hid (show Small [xDays, xFirst, xLast] from ⟨by simp, by intro n hn; simp at hn; omega⟩)
    have hsz : (listT [xDays, xFirst, xLast]).size ≤ 1344 := listT_size hsm.out
    have g1 : ¬ 9223372036854775807 < xId.size + 1 := by omega
    have g2 : ¬ 9223372036854775807 < xId.size + 1 + (listT [xDays, xFirst, xLast]).size := by omega
    clear hv
    go_enter Tryd.func52, Tryd.ntmps52
    go_wp2_with fail
    go_region_held3 (fun w' => (True ∧ Below w.heap.size w w') ∧ w'.cell? ⟨b, o, none⟩ = some (.string xId) ∧ w'.cell? ⟨b, o + 1, none⟩ = some (.int .i64 xDays) ∧ w'.cell? ⟨b, o + 2, none⟩ = some (.int .i64 xFirst) ∧ w'.cell? ⟨b, o + 3, none⟩ = some (.int .i64 xLast))
      (first | exact ⟨⟨trivial, (Below.refl _ _).drew⟩, k0, k1, k2, k3⟩ | exact keepN4 hlt ‹_ ∧ _› (below_alloc _ _) | exact keepN4 hlt ‹_ ∧ _› ‹Below _ _ _›)
      (first | (go_at_call 95; refine (l01List_ok _ _ [xDays, xFirst, xLast] _ (first_intsWork (by first | exact IntsAt.new _ [xDays, xFirst, xLast] _ | exact (IntsAt.new _ [xDays, xFirst, xLast] _).drew)) hsm.out (by intro n hn; simp at hn; omega)).mono ?_; rintro e w2 ⟨rfl, hb2⟩))
    go_wp2_with fail
    go_ret
    obtain ⟨⟨_, hB⟩, _⟩ := ‹(_ ∧ Below _ _ _) ∧ _›
    exact ⟨by simp [workT], hB⟩

theorem specWorkText_ok (xId : ByteArray) (xDays : Int) (xFirst : Int) (xLast : Int) (w : World) (hsId : xId.size ≤ maxLen) :
    Calls Tryd.prog 13 #[.agg #[.string xId, .int .i64 xDays, .int .i64 xFirst, .int .i64 xLast]] w fun e w' => e = .returned (.string (orNo (workB xId xDays xFirst xLast) (workT xId xDays xFirst xLast))) ∧ Below w.heap.size w w' := by
  have HC0 := hid (HasC.new w [.string xId, .int .i64 xDays, .int .i64 xFirst, .int .i64 xLast] 26)
  cases hv : workB xId xDays xFirst xLast
  · clear HC0
    go_enter Tryd.func13, Tryd.ntmps13
    go_wp2_with (go_at_call 51; refine (workOne_ok xId xDays xFirst xLast _ _ _ hsId (by simp) (by simp) (by simp) (by simp)).mono ?_; rintro e w1 ⟨rfl, hb⟩)
    go_ret
    exact ⟨rfl, below_chain hb (Below.refl _ _)⟩
  · have HV := hid hv
    go_enter Tryd.func13, Tryd.ntmps13
    go_wp2_with (first | (go_at_call 51; refine (workOne_ok xId xDays xFirst xLast _ _ _ hsId (by simp) (by simp) (by simp) (by simp)).mono ?_; rintro e w1 ⟨rfl, hb⟩; have HC := hid (HC0.out.below hb); clear HC0) | (go_at_call 52; refine (workSText_ok xId xDays xFirst xLast _ _ _ HV.out HC.out.1 (HC.out.2 0 _ rfl) (HC.out.2 1 _ rfl) (HC.out.2 2 _ rfl) (HC.out.2 3 _ rfl)).mono ?_; rintro e w2 ⟨rfl, hb1⟩))
    go_ret
    exact ⟨by simp [orNo], below_chain hb hb1⟩

theorem toWork_ok (xId : ByteArray) (xDays : Int) (xFirst : Int) (xLast : Int) (w : World) :
    Calls Tryd.prog 14 #[.agg #[.string xId, .int .i64 xDays, .int .i64 xFirst, .int .i64 xLast]] w fun e w' => e = .returned (.agg #[.string xId, .int .i64 xDays, .int .i64 xFirst, .int .i64 xLast]) ∧ Below w.heap.size w w' := by
  go_enter Tryd.func14, Tryd.ntmps14
  go_wp2_with fail
  exact bodyPost_ret (v := .agg #[.string xId, .int .i64 xDays, .int .i64 xFirst, .int .i64 xLast]) (by simp [results, Tryd.results14, go_sem]) rfl ⟨rfl, ((below_alloc _ _).alloc (by simp) _).alloc (by simp; omega) _⟩

theorem szWork_ok (xId : ByteArray) (xDays : Int) (xFirst : Int) (xLast : Int) (l : Int) (w : World) (hsId : xId.size ≤ maxLen) (h0 : 0 ≤ l) (h1 : l ≤ 1048576) :
    Calls Tryd.prog 12 #[.agg #[.string xId, .int .i64 xDays, .int .i64 xFirst, .int .i64 xLast], .int .i64 l] w fun e w' => (∃ z : Int, e = .returned (.int .i64 z)) ∧ Below w.heap.size w w' := by
  unfold maxLen at hsId
  go_enter Tryd.func12, Tryd.ntmps12
  go_wp2_with fail
  all_goals (go_ret; exact ⟨⟨_, rfl⟩, below_alloc _ _⟩)

set_option maxHeartbeats 800000 in
theorem lawWork_ok (xId : ByteArray) (xDays : Int) (xFirst : Int) (xLast : Int) (w : World) (hsId : xId.size ≤ maxLen) (ht : Tab w) :
    Calls Tryd.prog 3 #[.agg #[.string xId, .int .i64 xDays, .int .i64 xFirst, .int .i64 xLast]] w fun e w' => e = .returned (.bool true) ∧ Below w.heap.size w w' := by
  have HT := hid (ht.alloc (.cells [.string xId, .int .i64 xDays, .int .i64 xFirst, .int .i64 xLast].toArray 23))
  have HH := hid (HasC.new w [.string xId, .int .i64 xDays, .int .i64 xFirst, .int .i64 xLast] 23)
  have HB := hid (below_alloc w (.cells [.string xId, .int .i64 xDays, .int .i64 xFirst, .int .i64 xLast].toArray 23))
  clear ht
  go_enter Tryd.func3, Tryd.ntmps3
  go_wp2_with fail
  refine (szWork_ok xId xDays xFirst xLast _ _ hsId (by omega) (by omega)).mono ?_
  rintro e w1 ⟨⟨z, rfl⟩, hb⟩
  have H1 := hid (HH.out.below hb)
  have T1 := hid (HT.out.below hb)
  have B1 := hid (below_trans HB.out hb)
  have c0 := H1.out.2 0 _ rfl
  have c1 := H1.out.2 1 _ rfl
  have c2 := H1.out.2 2 _ rfl
  have c3 := H1.out.2 3 _ rfl
  clear hb HT HH HB
  go_wp2_with fail
  · go_ret
    exact ⟨rfl, B1.out⟩
  refine (toWork_ok xId xDays xFirst xLast _).mono ?_
  rintro e w2 ⟨rfl, hb⟩
  have H2 := hid (H1.out.below hb)
  have T2 := hid (T1.out.below hb)
  have B2 := hid (below_trans B1.out hb)
  clear hb H1 T1 B1 c0 c1 c2 c3
  go_wp2_with fail
  refine (specWorkText_ok xId xDays xFirst xLast _ hsId).mono ?_
  rintro e w3 ⟨rfl, hb⟩
  have H3 := hid (H2.out.below hb)
  have T3 := hid (T2.out.below hb)
  have B3 := hid (below_trans B2.out hb)
  have c0 := H3.out.2 0 _ rfl
  have c1 := H3.out.2 1 _ rfl
  have c2 := H3.out.2 2 _ rfl
  have c3 := H3.out.2 3 _ rfl
  clear hb H2 T2 B2
  go_wp2_with fail
  refine (toWork_ok xId xDays xFirst xLast _).mono ?_
  rintro e w4 ⟨rfl, hb⟩
  have T4 := hid (T3.out.below hb)
  have B4 := hid (below_trans B3.out hb)
  clear hb H3 T3 B3 c0 c1 c2 c3
  go_wp2_with fail
  refine (WorkText_ok xId xDays xFirst xLast _ hsId T4.out).mono ?_
  rintro e w5 ⟨rfl, hb⟩
  have B5 := hid (below_trans B4.out hb)
  clear hb T4 B4
  go_wp2_with fail
  go_ret
  exact ⟨by simp, B5.out⟩

end Go.Proofs.YtdjobekjfggndabDoor
