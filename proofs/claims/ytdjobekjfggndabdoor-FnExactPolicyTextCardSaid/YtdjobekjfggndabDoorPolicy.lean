/- PolicyText and its reference. -/
import Derived.Test.YtdjobekjfggndabDoorDec
import Derived.Test.YtdjobekjfggndabDoorList
import Derived.Test.YtdjobekjfggndabDoorKeep
import Derived.Test.YtdjobekjfggndabDoorRange
namespace Go.Proofs.YtdjobekjfggndabDoor
open Go.RowKit
set_option linter.unusedVariables false

def policyB (xId : ByteArray) (xPremium : Int) (xShare : Int) (xExcess : Int) (xMost : Int) : Bool := nameB xId && (inB xPremium 0 10000000 && (inB xShare 0 1000 && (inB xExcess 0 10000000 && (inB xMost 0 10000000))))

set_option maxRecDepth 100000 in
theorem policyValid_ok (xId : ByteArray) (xPremium : Int) (xShare : Int) (xExcess : Int) (xMost : Int) (w : World) (hsId : xId.size ≤ maxLen) :
    Calls Tryd.prog 57 #[.agg #[.string xId, .int .i64 xPremium, .int .i64 xShare, .int .i64 xExcess, .int .i64 xMost]] w fun e w' => e = .returned (.bool (policyB xId xPremium xShare xExcess xMost)) ∧ Below w.heap.size w w' := by
  go_enter Tryd.func57, Tryd.ntmps57
  go_wp2_with (first | (go_at_call 96; refine (IsName_ok _ _ (by assumption)).mono ?_; rintro e w' ⟨rfl, rfl⟩) | (go_at_call 101; refine (isMoney_ok _ _).mono ?_; rintro e w' ⟨rfl, rfl⟩) | (go_at_call 102; refine (isShare_ok _ _).mono ?_; rintro e w' ⟨rfl, rfl⟩))
  all_goals (go_ret; exact ⟨ret_bool (by simp [policyB, *]), below_alloc _ _⟩)

set_option maxRecDepth 100000 in
theorem policyOne_ok (xId : ByteArray) (xPremium : Int) (xShare : Int) (xExcess : Int) (xMost : Int) (b o : Nat) (w : World) (hsId : xId.size ≤ maxLen) (k0 : w.cell? ⟨b, o, none⟩ = some (.string xId)) (k1 : w.cell? ⟨b, o + 1, none⟩ = some (.int .i64 xPremium)) (k2 : w.cell? ⟨b, o + 2, none⟩ = some (.int .i64 xShare)) (k3 : w.cell? ⟨b, o + 3, none⟩ = some (.int .i64 xExcess)) (k4 : w.cell? ⟨b, o + 4, none⟩ = some (.int .i64 xMost)) :
    Calls Tryd.prog 55 #[.pointer (some ⟨b, o, none⟩)] w fun e w' => e = .returned (.bool (policyB xId xPremium xShare xExcess xMost)) ∧ Below w.heap.size w w' := by
  go_enter Tryd.func55, Tryd.ntmps55
  go_wp2_with (first | (go_at_call 92; refine (l01Name_ok _ _ (by assumption)).mono ?_; rintro e w' ⟨rfl, rfl⟩) | (go_at_call 99; refine (l21Money_ok _ _).mono ?_; rintro e w' ⟨rfl, rfl⟩) | (go_at_call 100; refine (l21Share_ok _ _).mono ?_; rintro e w' ⟨rfl, rfl⟩))
  all_goals (go_ret; exact ⟨ret_bool (by simp [policyB, *]), Below.refl _ _⟩)

theorem policyB_bd {xId : ByteArray} {xPremium xShare xExcess xMost : Int} (h : policyB xId xPremium xShare xExcess xMost = true) : xId.size ≤ 10 ∧ 0 ≤ xPremium ∧ xPremium ≤ 10000000 ∧ 0 ≤ xShare ∧ xShare ≤ 10000000 ∧ 0 ≤ xExcess ∧ xExcess ≤ 10000000 ∧ 0 ≤ xMost ∧ xMost ≤ 10000000 := by
  simp only [policyB, Bool.and_eq_true, inB_iff] at h
  obtain ⟨a0, a1, a2, a3, a4⟩ := h
  refine ⟨name_size a0, by omega, by omega, by omega, by omega, by omega, by omega, by omega, by omega⟩

/-- the text -/
def policyT (xId : ByteArray) (xPremium : Int) (xShare : Int) (xExcess : Int) (xMost : Int) : ByteArray := xId ++ ⟨#[32]⟩ ++ listT [xPremium, xShare, xExcess, xMost]

theorem first_intsPolicy {w : World} {A : Option Addr} {ns : List Int} (h : IntsAt w A ns) : IntsAt w A ns := h
set_option maxHeartbeats 800000 in
set_option maxRecDepth 100000 in
theorem PolicyText_ok (xId : ByteArray) (xPremium : Int) (xShare : Int) (xExcess : Int) (xMost : Int) (w : World) (hsId : xId.size ≤ maxLen) (ht : Tab w) :
    Calls Tryd.prog 19 #[.agg #[.string xId, .int .i64 xPremium, .int .i64 xShare, .int .i64 xExcess, .int .i64 xMost]] w fun e w' => e = .returned (.string (orNo (policyB xId xPremium xShare xExcess xMost) (policyT xId xPremium xShare xExcess xMost))) ∧ Below w.heap.size w w' := by
  cases hv : policyB xId xPremium xShare xExcess xMost
  · go_enter Tryd.func19, Tryd.ntmps19
    go_wp2_with (go_at_call 57; refine (policyValid_ok _ _ _ _ _ _ hsId).mono ?_; rintro e w1 ⟨rfl, hb⟩)
    go_ret
    exact ⟨rfl, below_chain hb (Below.refl _ _)⟩
  · obtain ⟨zId, lPremium, uPremium, lShare, uShare, lExcess, uExcess, lMost, uMost⟩ := policyB_bd hv
    have HC0 := hid (HasC.new w [.string xId, .int .i64 xPremium, .int .i64 xShare, .int .i64 xExcess, .int .i64 xMost] 33)
    have HT := hid (ht.alloc (.cells [.string xId, .int .i64 xPremium, .int .i64 xShare, .int .i64 xExcess, .int .i64 xMost].toArray 33))
    have hsm := hid (show Small [xPremium, xShare, xExcess, xMost] from ⟨by simp, by intro n hn; simp at hn; omega⟩)
    have hsz : (listT [xPremium, xShare, xExcess, xMost]).size ≤ 1344 := listT_size hsm.out
    clear ht
    go_enter Tryd.func19, Tryd.ntmps19
    go_wp2_with (go_at_call 57; refine (policyValid_ok _ _ _ _ _ _ hsId).mono ?_; rintro e w1 ⟨rfl, hb⟩; have HC := hid (HC0.out.below hb); have k0 : w1.cell? ⟨w.heap.size, 0, none⟩ = some (.string xId) := HC.out.2 0 _ rfl; have k1 : w1.cell? ⟨w.heap.size, 1, none⟩ = some (.int .i64 xPremium) := HC.out.2 1 _ rfl; have k2 : w1.cell? ⟨w.heap.size, 2, none⟩ = some (.int .i64 xShare) := HC.out.2 2 _ rfl; have k3 : w1.cell? ⟨w.heap.size, 3, none⟩ = some (.int .i64 xExcess) := HC.out.2 3 _ rfl; have k4 : w1.cell? ⟨w.heap.size, 4, none⟩ = some (.int .i64 xMost) := HC.out.2 4 _ rfl; have hlt : w.heap.size < w1.heap.size := HC.out.1; have ht1 : Tab w1 := HT.out.below hb; clear HC HC0 HT)
    go_wp2_with (go_at_call 54; refine (named_ok _ _ _ [xPremium, xShare, xExcess, xMost] _ zId (ht1.alloc _) (IntsAt.new w1 [xPremium, xShare, xExcess, xMost] _) hsm.out).mono ?_; rintro e w2 ⟨rfl, hb2⟩)
    go_ret
    exact ⟨by simp [policyT, orNo], below_chain hb (below_trans (below_alloc _ _) hb2)⟩

set_option maxHeartbeats 800000 in
set_option maxRecDepth 100000 in
theorem policySText_ok (xId : ByteArray) (xPremium : Int) (xShare : Int) (xExcess : Int) (xMost : Int) (b o : Nat) (w : World) (hv : policyB xId xPremium xShare xExcess xMost = true) (hlt : b < w.heap.size) (k0 : w.cell? ⟨b, o, none⟩ = some (.string xId)) (k1 : w.cell? ⟨b, o + 1, none⟩ = some (.int .i64 xPremium)) (k2 : w.cell? ⟨b, o + 2, none⟩ = some (.int .i64 xShare)) (k3 : w.cell? ⟨b, o + 3, none⟩ = some (.int .i64 xExcess)) (k4 : w.cell? ⟨b, o + 4, none⟩ = some (.int .i64 xMost)) :
    Calls Tryd.prog 56 #[.pointer (some ⟨b, o, none⟩)] w fun e w' => e = .returned (.string (policyT xId xPremium xShare xExcess xMost)) ∧ Below w.heap.size w w' := by
  · obtain ⟨zId, lPremium, uPremium, lShare, uShare, lExcess, uExcess, lMost, uMost⟩ := policyB_bd hv
    have hsm := hid (show Small [xPremium, xShare, xExcess, xMost] from ⟨by simp, by intro n hn; simp at hn; omega⟩)
    have hsz : (listT [xPremium, xShare, xExcess, xMost]).size ≤ 1344 := listT_size hsm.out
    have g1 : ¬ 9223372036854775807 < xId.size + 1 := by omega
    have g2 : ¬ 9223372036854775807 < xId.size + 1 + (listT [xPremium, xShare, xExcess, xMost]).size := by omega
    clear hv
    go_enter Tryd.func56, Tryd.ntmps56
    go_wp2_with fail
    go_region_held3 (fun w' => (True ∧ Below w.heap.size w w') ∧ w'.cell? ⟨b, o, none⟩ = some (.string xId) ∧ w'.cell? ⟨b, o + 1, none⟩ = some (.int .i64 xPremium) ∧ w'.cell? ⟨b, o + 2, none⟩ = some (.int .i64 xShare) ∧ w'.cell? ⟨b, o + 3, none⟩ = some (.int .i64 xExcess) ∧ w'.cell? ⟨b, o + 4, none⟩ = some (.int .i64 xMost))
      (first | exact ⟨⟨trivial, (Below.refl _ _).drew⟩, k0, k1, k2, k3, k4⟩ | exact keepN5 hlt ‹_ ∧ _› (below_alloc _ _) | exact keepN5 hlt ‹_ ∧ _› ‹Below _ _ _›)
      (first | (go_at_call 95; refine (l01List_ok _ _ [xPremium, xShare, xExcess, xMost] _ (first_intsPolicy (by first | exact IntsAt.new _ [xPremium, xShare, xExcess, xMost] _ | exact (IntsAt.new _ [xPremium, xShare, xExcess, xMost] _).drew)) hsm.out (by intro n hn; simp at hn; omega)).mono ?_; rintro e w2 ⟨rfl, hb2⟩))
    go_wp2_with fail
    go_ret
    obtain ⟨⟨_, hB⟩, _⟩ := ‹(_ ∧ Below _ _ _) ∧ _›
    exact ⟨by simp [policyT], hB⟩

theorem specPolicyText_ok (xId : ByteArray) (xPremium : Int) (xShare : Int) (xExcess : Int) (xMost : Int) (w : World) (hsId : xId.size ≤ maxLen) :
    Calls Tryd.prog 17 #[.agg #[.string xId, .int .i64 xPremium, .int .i64 xShare, .int .i64 xExcess, .int .i64 xMost]] w fun e w' => e = .returned (.string (orNo (policyB xId xPremium xShare xExcess xMost) (policyT xId xPremium xShare xExcess xMost))) ∧ Below w.heap.size w w' := by
  have HC0 := hid (HasC.new w [.string xId, .int .i64 xPremium, .int .i64 xShare, .int .i64 xExcess, .int .i64 xMost] 33)
  cases hv : policyB xId xPremium xShare xExcess xMost
  · clear HC0
    go_enter Tryd.func17, Tryd.ntmps17
    go_wp2_with (go_at_call 55; refine (policyOne_ok xId xPremium xShare xExcess xMost _ _ _ hsId (by simp) (by simp) (by simp) (by simp) (by simp)).mono ?_; rintro e w1 ⟨rfl, hb⟩)
    go_ret
    exact ⟨rfl, below_chain hb (Below.refl _ _)⟩
  · have HV := hid hv
    go_enter Tryd.func17, Tryd.ntmps17
    go_wp2_with (first | (go_at_call 55; refine (policyOne_ok xId xPremium xShare xExcess xMost _ _ _ hsId (by simp) (by simp) (by simp) (by simp) (by simp)).mono ?_; rintro e w1 ⟨rfl, hb⟩; have HC := hid (HC0.out.below hb); clear HC0) | (go_at_call 56; refine (policySText_ok xId xPremium xShare xExcess xMost _ _ _ HV.out HC.out.1 (HC.out.2 0 _ rfl) (HC.out.2 1 _ rfl) (HC.out.2 2 _ rfl) (HC.out.2 3 _ rfl) (HC.out.2 4 _ rfl)).mono ?_; rintro e w2 ⟨rfl, hb1⟩))
    go_ret
    exact ⟨by simp [orNo], below_chain hb hb1⟩

theorem toPolicy_ok (xId : ByteArray) (xPremium : Int) (xShare : Int) (xExcess : Int) (xMost : Int) (w : World) :
    Calls Tryd.prog 18 #[.agg #[.string xId, .int .i64 xPremium, .int .i64 xShare, .int .i64 xExcess, .int .i64 xMost]] w fun e w' => e = .returned (.agg #[.string xId, .int .i64 xPremium, .int .i64 xShare, .int .i64 xExcess, .int .i64 xMost]) ∧ Below w.heap.size w w' := by
  go_enter Tryd.func18, Tryd.ntmps18
  go_wp2_with fail
  exact bodyPost_ret (v := .agg #[.string xId, .int .i64 xPremium, .int .i64 xShare, .int .i64 xExcess, .int .i64 xMost]) (by simp [results, Tryd.results18, go_sem]) rfl ⟨rfl, ((below_alloc _ _).alloc (by simp) _).alloc (by simp; omega) _⟩

theorem szPolicy_ok (xId : ByteArray) (xPremium : Int) (xShare : Int) (xExcess : Int) (xMost : Int) (l : Int) (w : World) (hsId : xId.size ≤ maxLen) (h0 : 0 ≤ l) (h1 : l ≤ 1048576) :
    Calls Tryd.prog 16 #[.agg #[.string xId, .int .i64 xPremium, .int .i64 xShare, .int .i64 xExcess, .int .i64 xMost], .int .i64 l] w fun e w' => (∃ z : Int, e = .returned (.int .i64 z)) ∧ Below w.heap.size w w' := by
  unfold maxLen at hsId
  go_enter Tryd.func16, Tryd.ntmps16
  go_wp2_with fail
  all_goals (go_ret; exact ⟨⟨_, rfl⟩, below_alloc _ _⟩)

set_option maxHeartbeats 800000 in
theorem lawPolicy_ok (xId : ByteArray) (xPremium : Int) (xShare : Int) (xExcess : Int) (xMost : Int) (w : World) (hsId : xId.size ≤ maxLen) (ht : Tab w) :
    Calls Tryd.prog 4 #[.agg #[.string xId, .int .i64 xPremium, .int .i64 xShare, .int .i64 xExcess, .int .i64 xMost]] w fun e w' => e = .returned (.bool true) ∧ Below w.heap.size w w' := by
  have HT := hid (ht.alloc (.cells [.string xId, .int .i64 xPremium, .int .i64 xShare, .int .i64 xExcess, .int .i64 xMost].toArray 30))
  have HH := hid (HasC.new w [.string xId, .int .i64 xPremium, .int .i64 xShare, .int .i64 xExcess, .int .i64 xMost] 30)
  have HB := hid (below_alloc w (.cells [.string xId, .int .i64 xPremium, .int .i64 xShare, .int .i64 xExcess, .int .i64 xMost].toArray 30))
  clear ht
  go_enter Tryd.func4, Tryd.ntmps4
  go_wp2_with fail
  refine (szPolicy_ok xId xPremium xShare xExcess xMost _ _ hsId (by omega) (by omega)).mono ?_
  rintro e w1 ⟨⟨z, rfl⟩, hb⟩
  have H1 := hid (HH.out.below hb)
  have T1 := hid (HT.out.below hb)
  have B1 := hid (below_trans HB.out hb)
  have c0 := H1.out.2 0 _ rfl
  have c1 := H1.out.2 1 _ rfl
  have c2 := H1.out.2 2 _ rfl
  have c3 := H1.out.2 3 _ rfl
  have c4 := H1.out.2 4 _ rfl
  clear hb HT HH HB
  go_wp2_with fail
  · go_ret
    exact ⟨rfl, B1.out⟩
  refine (toPolicy_ok xId xPremium xShare xExcess xMost _).mono ?_
  rintro e w2 ⟨rfl, hb⟩
  have H2 := hid (H1.out.below hb)
  have T2 := hid (T1.out.below hb)
  have B2 := hid (below_trans B1.out hb)
  clear hb H1 T1 B1 c0 c1 c2 c3 c4
  go_wp2_with fail
  refine (specPolicyText_ok xId xPremium xShare xExcess xMost _ hsId).mono ?_
  rintro e w3 ⟨rfl, hb⟩
  have H3 := hid (H2.out.below hb)
  have T3 := hid (T2.out.below hb)
  have B3 := hid (below_trans B2.out hb)
  have c0 := H3.out.2 0 _ rfl
  have c1 := H3.out.2 1 _ rfl
  have c2 := H3.out.2 2 _ rfl
  have c3 := H3.out.2 3 _ rfl
  have c4 := H3.out.2 4 _ rfl
  clear hb H2 T2 B2
  go_wp2_with fail
  refine (toPolicy_ok xId xPremium xShare xExcess xMost _).mono ?_
  rintro e w4 ⟨rfl, hb⟩
  have T4 := hid (T3.out.below hb)
  have B4 := hid (below_trans B3.out hb)
  clear hb H3 T3 B3 c0 c1 c2 c3 c4
  go_wp2_with fail
  refine (PolicyText_ok xId xPremium xShare xExcess xMost _ hsId T4.out).mono ?_
  rintro e w5 ⟨rfl, hb⟩
  have B5 := hid (below_trans B4.out hb)
  clear hb T4 B4
  go_wp2_with fail
  go_ret
  exact ⟨by simp, B5.out⟩

end Go.Proofs.YtdjobekjfggndabDoor
