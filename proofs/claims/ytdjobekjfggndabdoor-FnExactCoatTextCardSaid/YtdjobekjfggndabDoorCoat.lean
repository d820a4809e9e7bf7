/- CoatText and its reference. -/
import Derived.Test.YtdjobekjfggndabDoorDec
import Derived.Test.YtdjobekjfggndabDoorList
import Derived.Test.YtdjobekjfggndabDoorKeep
import Derived.Test.YtdjobekjfggndabDoorKeepM
import Derived.Test.YtdjobekjfggndabDoorRange
import Derived.Test.YtdjobekjfggndabDoorRises
import Derived.Test.YtdjobekjfggndabDoorColour
import Derived.Test.YtdjobekjfggndabDoorRowsKit
namespace Go.Proofs.YtdjobekjfggndabDoor
open Go.RowKit
set_option linter.unusedVariables false

noncomputable def coatB (xId : ByteArray) (x1 x2 : Int) (ns : List Int) : Bool := nameB xId && (inB x1 0 365 && (inB x2 0 1000 && colB ns))

set_option maxHeartbeats 800000 in
set_option maxRecDepth 100000 in
theorem coatValid_ok (xId : ByteArray) (x1 x2 : Int) (A : Option Addr) (c : Nat) (ns : List Int) (w : World) (hsId : xId.size ≤ maxLen) (hA : IntsAt w A ns) (hn : ns.length ≤ maxLen) :
    Calls Tryd.prog 87 #[.agg #[.string xId, .int .i64 x1, .int .i64 x2, .slice A ns.length c]] w fun e w' => e = .returned (.bool (coatB xId x1 x2 ns)) ∧ Below w.heap.size w w' := by
  have HA := hid (hA.below (below_alloc w (.cells [.string xId, .int .i64 x1, .int .i64 x2, .slice A ns.length c].toArray 81)))
  clear hA
  go_enter Tryd.func87, Tryd.ntmps87
  go_wp2_with (first | (go_at_call 96; refine (IsName_ok _ _ (by assumption)).mono ?_; rintro e w' ⟨rfl, rfl⟩) | (go_at_call 73; refine (within_ok _ _ _ _).mono ?_; rintro e w' ⟨rfl, rfl⟩) | (go_at_call 121; refine (isColour_ok _ _ _ _ HA.out hn).mono ?_; rintro e w' ⟨rfl, hb⟩))
  all_goals (go_ret; exact ⟨ret_bool (by simp [coatB, *]), by first | exact below_alloc _ _ | exact below_chain hb (Below.refl _ _)⟩)

set_option maxHeartbeats 800000 in
set_option maxRecDepth 100000 in
theorem coatOne_ok (xId : ByteArray) (x1 x2 : Int) (A : Option Addr) (c : Nat) (ns : List Int) (b o : Nat) (w : World) (hsId : xId.size ≤ maxLen) (hA : IntsAt w A ns) (hn : ns.length ≤ maxLen) (k0 : w.cell? ⟨b, o, none⟩ = some (.string xId)) (k1 : w.cell? ⟨b, o + 1, none⟩ = some (.int .i64 x1)) (k2 : w.cell? ⟨b, o + 2, none⟩ = some (.int .i64 x2)) (k3 : w.cell? ⟨b, o + 3, none⟩ = some (.slice A ns.length c)) :
    Calls Tryd.prog 85 #[.pointer (some ⟨b, o, none⟩)] w fun e w' => e = .returned (.bool (coatB xId x1 x2 ns)) ∧ Below w.heap.size w w' := by
  have HA := hid hA
  clear hA
  go_enter Tryd.func85, Tryd.ntmps85
  go_wp2_with (first | (go_at_call 92; refine (l01Name_ok _ _ (by assumption)).mono ?_; rintro e w' ⟨rfl, rfl⟩) | (go_at_call 68; refine (l00In_ok _ _ _ _).mono ?_; rintro e w' ⟨rfl, rfl⟩) | (go_at_call 120; refine (l13Colour_ok _ _ _ _ HA.out hn).mono ?_; rintro e w1 ⟨rfl, hb⟩))
  all_goals (go_ret; exact ⟨ret_bool (by simp [coatB, *]), by first | exact Below.refl _ _ | exact hb⟩)

theorem l01List_twoCoat (A : Option Addr) (c : Nat) (x1 x2 : Int) (w : World) (hA : IntsAt w A [x1, x2]) (hs : Small [x1, x2]) (h0 : 0 ≤ x1 ∧ 0 ≤ x2) :
    Calls Tryd.prog 95 #[.slice A 2 c] w fun e w' => e = .returned (.string (listT [x1, x2])) ∧ Below w.heap.size w w' :=
  l01List_ok A c [x1, x2] w hA hs (by intro n hn; simp at hn; omega)

theorem coatB_bd {xId : ByteArray} {x1 x2 : Int} {ns : List Int} (h : coatB xId x1 x2 ns = true) : xId.size ≤ 10 ∧ (0 ≤ x1 ∧ x1 ≤ 10000000) ∧ (0 ≤ x2 ∧ x2 ≤ 10000000) ∧ Small ns ∧ ∀ n ∈ ns, 0 ≤ n := by
  simp only [coatB, Bool.and_eq_true] at h
  obtain ⟨a0, a1, a2, a3⟩ := h
  have b1 := inB_iff.1 a1
  have b2 := inB_iff.1 a2
  have m3 := (colB_iff.1 a3).1
  have n3 := (colB_iff.1 a3).2
  exact ⟨name_size a0, by omega, by omega, ⟨by omega, fun n hn => by have := m3 n hn; omega⟩, fun n hn => (m3 n hn).1⟩

/-- the text -/
def coatT (xId : ByteArray) (x1 x2 : Int) (ns : List Int) : ByteArray := xId ++ ⟨#[32]⟩ ++ listT [x1, x2] ++ ⟨#[32]⟩ ++ listT ns

set_option maxHeartbeats 800000 in
set_option maxRecDepth 100000 in
theorem CoatText_ok (xId : ByteArray) (x1 x2 : Int) (A : Option Addr) (c : Nat) (ns : List Int) (w : World) (hsId : xId.size ≤ maxLen) (hA : IntsAt w A ns) (hn : ns.length ≤ maxLen) (ht : Tab w) :
    Calls Tryd.prog 45 #[.agg #[.string xId, .int .i64 x1, .int .i64 x2, .slice A ns.length c]] w fun e w' => e = .returned (.string (orNo (coatB xId x1 x2 ns) (coatT xId x1 x2 ns))) ∧ Below w.heap.size w w' := by
  have HA := hid (hA.below (below_alloc w (.cells [.string xId, .int .i64 x1, .int .i64 x2, .slice A ns.length c].toArray 81)))
  clear hA
  cases hv : coatB xId x1 x2 ns
  · clear ht
    go_enter Tryd.func45, Tryd.ntmps45
    go_wp2_with (go_at_call 87; refine (coatValid_ok _ _ _ _ _ _ _ hsId HA.out hn).mono ?_; rintro e w1 ⟨rfl, hb⟩)
    go_ret
    exact ⟨rfl, below_chain hb (Below.refl _ _)⟩
  · obtain ⟨zId, ⟨l1, u1⟩, ⟨l2, u2⟩, sm, _⟩ := coatB_bd hv
    have HSM := hid sm
    have HC0 := hid (HasC.new w [.string xId, .int .i64 x1, .int .i64 x2, .slice A ns.length c] 81)
    have HT := hid (ht.alloc (.cells [.string xId, .int .i64 x1, .int .i64 x2, .slice A ns.length c].toArray 81))
    have hsm := hid (show Small [x1, x2] from ⟨by simp, by intro n hn; simp at hn; omega⟩)
    have hsz : (listT [x1, x2]).size ≤ 1344 := listT_size hsm.out
    have hsz2 : (listT ns).size ≤ 1344 := listT_size HSM.out
    have g1 : ¬ 9223372036854775807 < xId.size + 1 + (listT [x1, x2]).size + 1 := by omega
    have g2 : ¬ 9223372036854775807 < xId.size + 1 + (listT [x1, x2]).size + 1 + (listT ns).size := by omega
    clear ht sm
    go_enter Tryd.func45, Tryd.ntmps45
    go_wp2_with (go_at_call 87; refine (coatValid_ok _ _ _ _ _ _ _ hsId HA.out hn).mono ?_; rintro e w1 ⟨rfl, hb⟩)
    have HC := hid (HC0.out.below hb)
    have HI := hid (HA.out.below hb)
    have k0 := HC.out.2 0 _ rfl
    have k1 := HC.out.2 1 _ rfl
    have k2 := HC.out.2 2 _ rfl
    have k3 := HC.out.2 3 _ rfl
    have hlt : w.heap.size < w1.heap.size := HC.out.1
    have ht1 : Tab w1 := HT.out.below hb
    clear HC HC0 HT hv HA
    go_region_held3 (fun w' => (Tab w' ∧ Below w1.heap.size w1 w') ∧ w'.cell? ⟨w.heap.size, 0, none⟩ = some (.string xId) ∧ w'.cell? ⟨w.heap.size, 1, none⟩ = some (.int .i64 x1) ∧ w'.cell? ⟨w.heap.size, 2, none⟩ = some (.int .i64 x2) ∧ w'.cell? ⟨w.heap.size, 3, none⟩ = some (.slice A ns.length c))
      (first | exact ⟨⟨ht1.drew, (Below.refl _ _).drew⟩, k0, k1, k2, k3⟩ | exact keepT4 hlt ‹_ ∧ _› (below_alloc _ _) | exact keepT4 hlt ‹_ ∧ _› ‹Below _ _ _›)
      (first | (go_at_call 54; refine (named_ok _ _ _ [x1, x2] _ zId (And.left (And.left ‹(Tab _ ∧ _) ∧ _›)) (by first | exact IntsAt.new _ [x1, x2] _ | exact (IntsAt.new _ [x1, x2] _).drew) hsm.out).mono ?_; rintro e w2 ⟨rfl, hb2⟩) | (go_at_call 83; refine (ListText_ok A c ns _ (And.left (And.left ‹(Tab _ ∧ _) ∧ _›)) (HI.out.below (And.right (And.left ‹(Tab _ ∧ _) ∧ _›))) HSM.out).mono ?_; rintro e w2 ⟨rfl, hb2⟩))
    go_wp2_with fail
    go_ret
    obtain ⟨⟨_, hB⟩, _⟩ := ‹(Tab _ ∧ _) ∧ _›
    exact ⟨by simp [coatT, orNo], below_chain hb hB⟩

set_option maxHeartbeats 800000 in
set_option maxRecDepth 100000 in
theorem coatSText_ok (xId : ByteArray) (x1 x2 : Int) (A : Option Addr) (c : Nat) (ns : List Int) (b o : Nat) (w : World) (hv : coatB xId x1 x2 ns = true) (hA : IntsAt w A ns) (hlt : b < w.heap.size) (k0 : w.cell? ⟨b, o, none⟩ = some (.string xId)) (k1 : w.cell? ⟨b, o + 1, none⟩ = some (.int .i64 x1)) (k2 : w.cell? ⟨b, o + 2, none⟩ = some (.int .i64 x2)) (k3 : w.cell? ⟨b, o + 3, none⟩ = some (.slice A ns.length c)) :
    Calls Tryd.prog 86 #[.pointer (some ⟨b, o, none⟩)] w fun e w' => e = .returned (.string (coatT xId x1 x2 ns)) ∧ Below w.heap.size w w' := by
  obtain ⟨zId, ⟨l1, u1⟩, ⟨l2, u2⟩, sm, sp⟩ := coatB_bd hv
  have HSM := hid sm
  have HSP := hid sp
  have HI := hid hA
  have hsm := hid (show Small [x1, x2] from ⟨by simp, by intro n hn; simp at hn; omega⟩)
  have hps : 0 ≤ x1 ∧ 0 ≤ x2 := ⟨l1, l2⟩
  have hsz : (listT [x1, x2]).size ≤ 1344 := listT_size hsm.out
  have hsz2 : (listT ns).size ≤ 1344 := listT_size HSM.out
  have g0 : ¬ 9223372036854775807 < xId.size + 1 := by omega
  have g3 : ¬ 9223372036854775807 < xId.size + 1 + (listT [x1, x2]).size := by omega
  have g1 : ¬ 9223372036854775807 < xId.size + 1 + (listT [x1, x2]).size + 1 := by omega
  have g2 : ¬ 9223372036854775807 < xId.size + 1 + (listT [x1, x2]).size + 1 + (listT ns).size := by omega
  clear hv sm sp hA
  go_enter Tryd.func86, Tryd.ntmps86
  go_wp2_with fail
  go_region_held3 (fun w' => (True ∧ Below w.heap.size w w') ∧ w'.cell? ⟨b, o, none⟩ = some (.string xId) ∧ w'.cell? ⟨b, o + 1, none⟩ = some (.int .i64 x1) ∧ w'.cell? ⟨b, o + 2, none⟩ = some (.int .i64 x2) ∧ w'.cell? ⟨b, o + 3, none⟩ = some (.slice A ns.length c))
    (first | exact ⟨⟨trivial, (Below.refl _ _).drew⟩, k0, k1, k2, k3⟩ | exact keepN4 hlt ‹_ ∧ _› (below_alloc _ _) | exact keepN4 hlt ‹_ ∧ _› ‹Below _ _ _›)
    (first | (go_at_call 95; (with_reducible refine (l01List_twoCoat _ _ x1 x2 _ ?_ hsm.out hps).mono ?_); (first | exact IntsAt.new _ [x1, x2] _ | exact (IntsAt.new _ [x1, x2] _).drew); rintro e w2 ⟨rfl, hb2⟩) | (go_at_call 95; (with_reducible refine (l01List_ok A c ns _ (HI.out.below (And.right (And.left ‹(True ∧ _) ∧ _›))) HSM.out HSP.out).mono ?_); rintro e w2 ⟨rfl, hb2⟩))
  go_wp2_with fail
  go_ret
  obtain ⟨⟨_, hB⟩, _⟩ := ‹(_ ∧ Below _ _ _) ∧ _›
  exact ⟨by simp [coatT], hB⟩

theorem specCoatText_ok (xId : ByteArray) (x1 x2 : Int) (A : Option Addr) (c : Nat) (ns : List Int) (w : World) (hsId : xId.size ≤ maxLen) (hA : IntsAt w A ns) (hn : ns.length ≤ maxLen) :
    Calls Tryd.prog 43 #[.agg #[.string xId, .int .i64 x1, .int .i64 x2, .slice A ns.length c]] w fun e w' => e = .returned (.string (orNo (coatB xId x1 x2 ns) (coatT xId x1 x2 ns))) ∧ Below w.heap.size w w' := by
  have HC0 := hid (HasC.new w [.string xId, .int .i64 x1, .int .i64 x2, .slice A ns.length c] 81)
  have HA := hid (hA.below (below_alloc w (.cells [.string xId, .int .i64 x1, .int .i64 x2, .slice A ns.length c].toArray 81)))
  clear hA
  cases hv : coatB xId x1 x2 ns
  · clear HC0
    go_enter Tryd.func43, Tryd.ntmps43
    go_wp2_with (go_at_call 85; refine (coatOne_ok xId x1 x2 A c ns _ _ _ hsId HA.out hn (by simp) (by simp) (by simp) (by simp)).mono ?_; rintro e w1 ⟨rfl, hb⟩)
    go_ret
    exact ⟨rfl, below_chain hb (Below.refl _ _)⟩
  · have HV := hid hv
    go_enter Tryd.func43, Tryd.ntmps43
    go_wp2_with (first | (go_at_call 85; refine (coatOne_ok xId x1 x2 A c ns _ _ _ hsId HA.out hn (by simp) (by simp) (by simp) (by simp)).mono ?_; rintro e w1 ⟨rfl, hb⟩; have HC := hid (HC0.out.below hb); have HI := hid (HA.out.below hb); clear HC0) | (go_at_call 86; refine (coatSText_ok xId x1 x2 A c ns _ _ _ HV.out HI.out HC.out.1 (HC.out.2 0 _ rfl) (HC.out.2 1 _ rfl) (HC.out.2 2 _ rfl) (HC.out.2 3 _ rfl)).mono ?_; rintro e w2 ⟨rfl, hb1⟩))
    go_ret
    exact ⟨by simp [orNo], below_chain hb hb1⟩

set_option maxHeartbeats 800000 in
set_option maxRecDepth 100000 in
theorem toCoat_ok (xId : ByteArray) (x1 x2 : Int) (A : Option Addr) (c : Nat) (ns : List Int) (w : World) (hA : IntsAt w A ns) (hn : ns.length ≤ 1048576) :
    Calls Tryd.prog 44 #[.agg #[.string xId, .int .i64 x1, .int .i64 x2, .slice A ns.length c]] w fun e w' => (∃ g, e = .returned (.agg #[.string xId, .int .i64 x1, .int .i64 x2, .slice (some ⟨g, 0, none⟩) ns.length ns.length]) ∧ w'.ownsRow w.heap.size 2 1 (.slice (some ⟨g, 0, none⟩) ns.length ns.length) ns.length (ns.map (Value.int .i64))) ∧ Below w.heap.size w w' := by
  have HA := hid hA
  clear hA
  go_enter Tryd.func44, Tryd.ntmps44
  go_wp2_with fail
  refine (toInt64S_ok A c ns _ (((HA.out.below (below_alloc _ _)).below (below_alloc _ _)).below (below_alloc _ _)) hn).mono ?_
  rintro e w1 ⟨v, rfl, ⟨g, rfl⟩, hown, hb⟩
  have hsz : w.heap.size + 3 ≤ w1.heap.size := by have := hb.size; simp at this; omega
  obtain ⟨hc, hf⟩ := bcell hb
  have HO := hid hown
  have HB := hid hb
  clear hown hb
  go_wp2_with fail
  refine bodyPost_ret (v := .agg #[.string xId, .int .i64 x1, .int .i64 x2, .slice (some ⟨g, 0, none⟩) ns.length ns.length]) (by simp [results, Tryd.results44, go_sem, hc]) rfl ⟨⟨g, rfl, ?_⟩, ?_⟩
  · exact own_mono (ownsRow_setCell_below (ownsRow_setCell_below (ownsRow_setCell_below (ownsRow_setCell_below (ownsRow_setCell_below HO.out (by simp) _) (by simp <;> omega) _) (by simp <;> omega) _) (by simp <;> omega) _) (by simp <;> omega) _) (by simp <;> omega)
  · exact (((((((((below_alloc _ _).alloc (by simp) _).alloc (by simp <;> omega) _).trans (HB.out.mono (by simp <;> omega))).setCell (by simp <;> omega) _).setCell (by simp <;> omega) _).setCell (by simp <;> omega) _).setCell (by simp <;> omega) _).setCell (by simp <;> omega) _)

set_option maxHeartbeats 800000 in
set_option maxRecDepth 100000 in
theorem eqCoat_same (xId : ByteArray) (x1 x2 : Int) (A A' : Option Addr) (c c' : Nat) (ns : List Int) (w : World) (hA : IntsAt w A ns) (hA' : IntsAt w A' ns) (hn : ns.length ≤ 1048576) :
    Calls Tryd.prog 46 #[.agg #[.string xId, .int .i64 x1, .int .i64 x2, .slice A ns.length c], .agg #[.string xId, .int .i64 x1, .int .i64 x2, .slice A' ns.length c']] w fun e w' => e = .returned (.bool true) ∧ Below w.heap.size w w' := by
  have HA := hid ((hA.below (below_alloc _ (.cells #[.string xId, .int .i64 x1, .int .i64 x2, .slice A ns.length c] 81))).below (below_alloc _ (.cells #[.string xId, .int .i64 x1, .int .i64 x2, .slice A' ns.length c'] 81)))
  have HA' := hid ((hA'.below (below_alloc _ (.cells #[.string xId, .int .i64 x1, .int .i64 x2, .slice A ns.length c] 81))).below (below_alloc _ (.cells #[.string xId, .int .i64 x1, .int .i64 x2, .slice A' ns.length c'] 81)))
  clear hA hA'
  go_enter Tryd.func46, Tryd.ntmps46
  go_wp2_with (go_at_call 84; refine (eqInt64S_same _ _ _ _ _ _ HA.out HA'.out hn).mono ?_; rintro e w1 ⟨rfl, hb⟩)
  go_ret
  exact ⟨rfl, (((below_alloc _ _).alloc (by simp) _).trans (hb.mono (by simp <;> omega)))⟩

theorem szCoat_ok (xId : ByteArray) (x1 x2 : Int) (A : Option Addr) (c : Nat) (ns : List Int) (l : Int) (w : World) (hsId : xId.size ≤ maxLen) (hn : ns.length ≤ maxLen) (h0 : 0 ≤ l) (h1 : l ≤ 1048576) :
    Calls Tryd.prog 42 #[.agg #[.string xId, .int .i64 x1, .int .i64 x2, .slice A ns.length c], .int .i64 l] w fun e w' => (∃ z : Int, e = .returned (.int .i64 z) ∧ (0 ≤ z → ns.length ≤ 1048576)) ∧ Below w.heap.size w w' := by
  unfold maxLen at hsId hn
  go_enter Tryd.func42, Tryd.ntmps42
  go_wp2_with (go_at_call 78; refine (szInt64S_ok _ _ _ _ _ hn (by omega) (by omega)).mono ?_; rintro e w1 ⟨rfl, rfl⟩)
  all_goals (go_ret; exact ⟨⟨_, rfl, fun hz => by first | exact absurd hz (by omega) | (have := subSz_le hz; omega)⟩, below_alloc _ _⟩)

set_option maxHeartbeats 1600000 in
set_option maxRecDepth 100000 in
theorem lawCoat_ok (xId : ByteArray) (x1 x2 : Int) (A : Option Addr) (c : Nat) (ns : List Int) (w : World) (hsId : xId.size ≤ maxLen) (hA : IntsAt w A ns) (hn : ns.length ≤ maxLen) (ht : Tab w) :
    Calls Tryd.prog 10 #[.agg #[.string xId, .int .i64 x1, .int .i64 x2, .slice A ns.length c]] w fun e w' => e = .returned (.bool true) ∧ Below w.heap.size w w' := by
  have HT := hid (ht.alloc (.cells [.string xId, .int .i64 x1, .int .i64 x2, .slice A ns.length c].toArray 78))
  have HH := hid (HasC.new w [.string xId, .int .i64 x1, .int .i64 x2, .slice A ns.length c] 78)
  have HB := hid (below_alloc w (.cells [.string xId, .int .i64 x1, .int .i64 x2, .slice A ns.length c].toArray 78))
  have HI := hid (hA.below (below_alloc w (.cells [.string xId, .int .i64 x1, .int .i64 x2, .slice A ns.length c].toArray 78)))
  clear ht hA
  go_enter Tryd.func10, Tryd.ntmps10
  go_wp2_with fail
  refine (szCoat_ok xId x1 x2 A c ns _ _ hsId hn (by omega) (by omega)).mono ?_
  rintro e w1 ⟨⟨z, rfl, hz⟩, hb⟩
  have HZ := hid hz
  have H1 := hid (HH.out.below hb)
  have T1 := hid (HT.out.below hb)
  have B1 := hid (below_trans HB.out hb)
  have I1 := hid (HI.out.below hb)
  have c0 := H1.out.2 0 _ rfl
  have c1 := H1.out.2 1 _ rfl
  have c2 := H1.out.2 2 _ rfl
  have c3 := H1.out.2 3 _ rfl
  clear hb HT HH HB HI hz
  go_wp2_with fail
  · go_ret
    exact ⟨rfl, B1.out⟩
  have hn2 : ns.length ≤ 1048576 := HZ.out ‹_›
  clear HZ
  refine (toCoat_ok xId x1 x2 A c ns _ I1.out hn2).mono ?_
  rintro e w2 ⟨⟨g2, rfl, hown⟩, hb⟩
  have J2 := hid (ints_own hown)
  have H2 := hid (H1.out.below hb)
  have T2 := hid (T1.out.below hb)
  have B2 := hid (below_trans B1.out hb)
  have I2 := hid (I1.out.below hb)
  clear hb H1 T1 B1 I1 c0 c1 c2 c3 hown
  go_wp2_with fail
  refine (specCoatText_ok xId x1 x2 _ _ ns _ hsId J2.out hn).mono ?_
  rintro e w3 ⟨rfl, hb⟩
  have H3 := hid (H2.out.below hb)
  have T3 := hid (T2.out.below hb)
  have B3 := hid (below_trans B2.out hb)
  have I3 := hid (I2.out.below hb)
  have c0 := H3.out.2 0 _ rfl
  have c1 := H3.out.2 1 _ rfl
  have c2 := H3.out.2 2 _ rfl
  have c3 := H3.out.2 3 _ rfl
  clear hb H2 T2 B2 I2 J2
  go_wp2_with fail
  refine (toCoat_ok xId x1 x2 A c ns _ I3.out hn2).mono ?_
  rintro e w4 ⟨⟨g4, rfl, hown⟩, hb⟩
  have X4 := hid (HasC.new w4 [.string xId, .int .i64 x1, .int .i64 x2, .slice (some ⟨g4, 0, none⟩) ns.length ns.length] 81)
  have A4 := hid (below_alloc w4 (.cells [.string xId, .int .i64 x1, .int .i64 x2, .slice (some ⟨g4, 0, none⟩) ns.length ns.length].toArray 81))
  have J4 := hid ((ints_own hown).below A4.out)
  have H4 := hid ((H3.out.below hb).below A4.out)
  have T4 := hid ((T3.out.below hb).below A4.out)
  have B4 := hid (below_trans (below_trans B3.out hb) A4.out)
  have I4 := hid ((I3.out.below hb).below A4.out)
  clear hb H3 T3 B3 I3 c0 c1 c2 c3 hown A4
  go_wp2_with fail
  refine (CoatText_ok xId x1 x2 _ _ ns _ hsId J4.out hn T4.out).mono ?_
  rintro e w5 ⟨rfl, hb⟩
  have X5 := hid (X4.out.below hb)
  have H5 := hid (H4.out.below hb)
  have B5 := hid (below_trans B4.out hb)
  have I5 := hid (I4.out.below hb)
  have J5 := hid (J4.out.below hb)
  have d0 := X5.out.2 0 _ rfl
  have d1 := X5.out.2 1 _ rfl
  have d2 := X5.out.2 2 _ rfl
  have d3 := X5.out.2 3 _ rfl
  have c0 := H5.out.2 0 _ rfl
  have c1 := H5.out.2 1 _ rfl
  have c2 := H5.out.2 2 _ rfl
  have c3 := H5.out.2 3 _ rfl
  have q1 : w.heap.size < w5.heap.size := H5.out.1
  have q2 : w4.heap.size < w5.heap.size := X5.out.1
  clear hb X4 H4 T4 B4 I4 J4
  go_wp2_with fail
  go_region_held3 (fun w' => (True ∧ Below w5.heap.size w5 w') ∧ w'.cell? ⟨w.heap.size, 0, none⟩ = some (.string xId) ∧ w'.cell? ⟨w.heap.size, 1, none⟩ = some (.int .i64 x1) ∧ w'.cell? ⟨w.heap.size, 2, none⟩ = some (.int .i64 x2) ∧ w'.cell? ⟨w.heap.size, 3, none⟩ = some (.slice A ns.length c) ∧ w'.cell? ⟨w4.heap.size, 0, none⟩ = some (.string xId) ∧ w'.cell? ⟨w4.heap.size, 1, none⟩ = some (.int .i64 x1) ∧ w'.cell? ⟨w4.heap.size, 2, none⟩ = some (.int .i64 x2) ∧ w'.cell? ⟨w4.heap.size, 3, none⟩ = some (.slice (some ⟨g4, 0, none⟩) ns.length ns.length))
    (first | exact ⟨⟨trivial, (Below.refl _ _).drew⟩, c0, c1, c2, c3, d0, d1, d2, d3⟩ | exact keepM8 q1 q1 q1 q1 q2 q2 q2 q2 ‹_ ∧ _› ‹Below _ _ _›)
    (first | (go_at_call 44; refine (toCoat_ok xId x1 x2 A c ns _ (I5.out.below (And.right (And.left ‹(True ∧ _) ∧ _›))) hn2).mono ?_; rintro e w6 ⟨⟨g6, rfl, hown6⟩, hb6⟩) | (go_at_call 46; refine (eqCoat_same xId x1 x2 _ _ _ _ ns _ (J5.out.below (And.right (And.left ‹(True ∧ _) ∧ _›))) (ints_own hown6) hn2).mono ?_; rintro e w7 ⟨rfl, hb7⟩))
  go_wp2_with fail
  go_ret
  obtain ⟨⟨_, hB⟩, _⟩ := ‹(_ ∧ Below _ _ _) ∧ _›
  exact ⟨rfl, below_trans B5.out hB⟩

end Go.Proofs.YtdjobekjfggndabDoor
