/- StepText and its reference. -/
import Derived.Test.YtdjobekjfggndabDoorDec
import Derived.Test.YtdjobekjfggndabDoorList
import Derived.Test.YtdjobekjfggndabDoorKeep
import Derived.Test.YtdjobekjfggndabDoorKeepM
import Derived.Test.YtdjobekjfggndabDoorRange
import Derived.Test.YtdjobekjfggndabDoorRises
import Derived.Test.YtdjobekjfggndabDoorColour
import Derived.Test.YtdjobekjfggndabDoorRowsKit
namespace Go.Proofs.YtdjobekjfggndabDoor
open Go.RowKit
set_option linter.unusedVariables false

noncomputable def stepB (xId : ByteArray) (x1 x2 : Int) (ns : List Int) : Bool := nameB xId && (inB x1 1 200 && (inB x2 0 20 && risesB ns 0 11))

set_option maxHeartbeats 1600000 in
set_option maxRecDepth 100000 in
theorem stepValid_ok (xId : ByteArray) (x1 x2 : Int) (A : Option Addr) (c : Nat) (ns : List Int) (w : World) (hsId : xId.size ≤ maxLen) (hA : IntsAt w A ns) (hn : ns.length ≤ maxLen) :
    Calls Tryd.prog 82 #[.agg #[.string xId, .int .i64 x1, .int .i64 x2, .slice A ns.length c]] w fun e w' => e = .returned (.bool (stepB xId x1 x2 ns)) ∧ Below w.heap.size w w' := by
  have HA := hid hA
  have hn2 : ns.length ≤ 9223372036854775807 := hn
  clear hA
  go_enter Tryd.func82, Tryd.ntmps82
  go_wp2_with fail
  go_loop [8] (fun i => ∃ k : Nat, k ≤ ns.length ∧ i = .int .i64 k ∧ RisesTo ns 0 11 k) (fun i => ns.length - (intOf i).toNat)
  case atStart => exact ⟨0, Nat.zero_le _, rfl, RisesTo.zero _ _ _⟩
  case round =>
    obtain ⟨k, hk, rfl, hall⟩ := hrel
    have HR := hid hall
    clear hall
    by_cases hkl : k < ns.length
    · have hne : ns ≠ [] := by intro e; rw [e] at hkl; exact absurd hkl (by simp)
      obtain ⟨b, o, rfl, hlt, hc⟩ := HA.out hne
      have hcell : w.cell? ⟨b, o + k, none⟩ = some (.int .i64 ns[k]) := hc k _ (List.getElem?_eq_getElem hkl)
      have HC := hid hc
      clear hc HA hne
      cases c1 : inB ns[k] 0 11
      · have HN := hid (show stepB xId x1 x2 ns = false by simp [stepB, norise_in hkl c1])
        go_wp2_with (go_at_call 73; refine (within_ok _ _ _ _).mono ?_; rintro e w' ⟨rfl, rfl⟩)
        go_ret
        exact ⟨ret_bool HN.out.symm, below_alloc _ _⟩
      · rcases Nat.lt_or_ge k 1 with hk0 | hk0
        · have HS := hid (HR.out.succ hkl c1 (fun h => absurd h (by omega)))
          have e0 : decide (0 < k) = false := by simp; omega
          go_wp2_with (go_at_call 73; refine (within_ok _ _ _ _).mono ?_; rintro e w' ⟨rfl, rfl⟩)
          go_round
          case rel => exact ⟨k + 1, by omega, by go_num, HS.out⟩
          case measure => simp [intOf]; omega
        · have hcell2 : w.cell? ⟨b, o + (k - 1), none⟩ = some (.int .i64 ns[k - 1]) := HC.out (k - 1) _ (List.getElem?_eq_getElem (by omega))
          have e0 : decide (0 < k) = true := by simp; omega
          have e3 : (0 : Int) ≤ (k : Int) - 1 := by omega
          have e4 : ((k : Int) - 1).toNat = k - 1 := by omega
          have e5 : (k : Int) - 1 < ns.length := by omega
          by_cases c2 : ns[k - 1] < ns[k]
          · have HS := hid (HR.out.succ hkl c1 (fun _ => c2))
            have d2 : decide (ns[k] ≤ ns[k - 1]) = false := by simp; omega
            go_wp2_with (go_at_call 73; refine (within_ok _ _ _ _).mono ?_; rintro e w' ⟨rfl, rfl⟩)
            go_round
            case rel => exact ⟨k + 1, by omega, by go_num, HS.out⟩
            case measure => simp [intOf]; omega
          · have HN := hid (show stepB xId x1 x2 ns = false by simp [stepB, norise_up (lo := 0) (hi := 11) hkl hk0 (by omega)])
            have d2 : decide (ns[k] ≤ ns[k - 1]) = true := by simp; omega
            go_wp2_with (go_at_call 73; refine (within_ok _ _ _ _).mono ?_; rintro e w' ⟨rfl, rfl⟩)
            go_ret
            exact ⟨ret_bool HN.out.symm, below_alloc _ _⟩
    · have hk2 : k = ns.length := by omega
      subst hk2
      have HN := hid (show stepB xId x1 x2 ns = (nameB xId && (inB x1 1 200 && inB x2 0 20)) by simp [stepB, risesB_true HR.out])
      go_wp2_with (first | (go_at_call 96; refine (IsName_ok _ _ (by assumption)).mono ?_; rintro e w' ⟨rfl, rfl⟩) | (go_at_call 73; refine (within_ok _ _ _ _).mono ?_; rintro e w' ⟨rfl, rfl⟩))
      all_goals (go_ret; exact ⟨ret_bool (by rw [HN.out]; simp [*]), below_alloc _ _⟩)

set_option maxHeartbeats 800000 in
set_option maxRecDepth 100000 in
theorem stepOne_ok (xId : ByteArray) (x1 x2 : Int) (A : Option Addr) (c : Nat) (ns : List Int) (b o : Nat) (w : World) (hsId : xId.size ≤ maxLen) (hA : IntsAt w A ns) (hn : ns.length ≤ maxLen) (k0 : w.cell? ⟨b, o, none⟩ = some (.string xId)) (k1 : w.cell? ⟨b, o + 1, none⟩ = some (.int .i64 x1)) (k2 : w.cell? ⟨b, o + 2, none⟩ = some (.int .i64 x2)) (k3 : w.cell? ⟨b, o + 3, none⟩ = some (.slice A ns.length c)) :
    Calls Tryd.prog 79 #[.pointer (some ⟨b, o, none⟩)] w fun e w' => e = .returned (.bool (stepB xId x1 x2 ns)) ∧ Below w.heap.size w w' := by
  have HA := hid hA
  clear hA
  go_enter Tryd.func79, Tryd.ntmps79
  go_wp2_with (first | (go_at_call 92; refine (l01Name_ok _ _ (by assumption)).mono ?_; rintro e w' ⟨rfl, rfl⟩) | (go_at_call 68; refine (l00In_ok _ _ _ _).mono ?_; rintro e w' ⟨rfl, rfl⟩) | (go_at_call 118; refine (l00Rises_ok _ _ _ _ _ _ HA.out hn).mono ?_; rintro e w1 ⟨rfl, hb⟩))
  all_goals (go_ret; exact ⟨ret_bool (by simp [stepB, *]), by first | exact Below.refl _ _ | exact hb⟩)

theorem l01List_twoStep (A : Option Addr) (c : Nat) (x1 x2 : Int) (w : World) (hA : IntsAt w A [x1, x2]) (hs : Small [x1, x2]) (h0 : 0 ≤ x1 ∧ 0 ≤ x2) :
    Calls Tryd.prog 95 #[.slice A 2 c] w fun e w' => e = .returned (.string (listT [x1, x2])) ∧ Below w.heap.size w w' :=
  l01List_ok A c [x1, x2] w hA hs (by intro n hn; simp at hn; omega)

theorem stepB_bd {xId : ByteArray} {x1 x2 : Int} {ns : List Int} (h : stepB xId x1 x2 ns = true) : xId.size ≤ 10 ∧ (0 ≤ x1 ∧ x1 ≤ 10000000) ∧ (0 ≤ x2 ∧ x2 ≤ 10000000) ∧ Small ns ∧ ∀ n ∈ ns, 0 ≤ n := by
  simp only [stepB, Bool.and_eq_true] at h
  obtain ⟨a0, a1, a2, a3⟩ := h
  have b1 := inB_iff.1 a1
  have b2 := inB_iff.1 a2
  have m3 := rises_mem a3
  have n3 := rises_length a3 (by omega)
  exact ⟨name_size a0, by omega, by omega, ⟨by omega, fun n hn => by have := m3 n hn; omega⟩, fun n hn => (m3 n hn).1⟩

/-- the text -/
def stepT (xId : ByteArray) (x1 x2 : Int) (ns : List Int) : ByteArray := xId ++ ⟨#[32]⟩ ++ listT [x1, x2] ++ ⟨#[32]⟩ ++ listT ns

set_option maxHeartbeats 800000 in
set_option maxRecDepth 100000 in
theorem StepText_ok (xId : ByteArray) (x1 x2 : Int) (A : Option Addr) (c : Nat) (ns : List Int) (w : World) (hsId : xId.size ≤ maxLen) (hA : IntsAt w A ns) (hn : ns.length ≤ maxLen) (ht : Tab w) :
    Calls Tryd.prog 40 #[.agg #[.string xId, .int .i64 x1, .int .i64 x2, .slice A ns.length c]] w fun e w' => e = .returned (.string (orNo (stepB xId x1 x2 ns) (stepT xId x1 x2 ns))) ∧ Below w.heap.size w w' := by
  have HA := hid (hA.below (below_alloc w (.cells [.string xId, .int .i64 x1, .int .i64 x2, .slice A ns.length c].toArray 73)))
  clear hA
  cases hv : stepB xId x1 x2 ns
  · clear ht
    go_enter Tryd.func40, Tryd.ntmps40
    go_wp2_with (go_at_call 82; refine (stepValid_ok _ _ _ _ _ _ _ hsId HA.out hn).mono ?_; rintro e w1 ⟨rfl, hb⟩)
    go_ret
    exact ⟨rfl, below_chain hb (Below.refl _ _)⟩
  · obtain ⟨zId, ⟨l1, u1⟩, ⟨l2, u2⟩, sm, _⟩ := stepB_bd hv
    have HSM := hid sm
    have HC0 := hid (HasC.new w [.string xId, .int .i64 x1, .int .i64 x2, .slice A ns.length c] 73)
    have HT := hid (ht.alloc (.cells [.string xId, .int .i64 x1, .int .i64 x2, .slice A ns.length c].toArray 73))
    have hsm := hid (show Small [x1, x2] from ⟨by simp, by intro n hn; simp at hn; omega⟩)
    have hsz : (listT [x1, x2]).size ≤ 1344 := listT_size hsm.out
    have hsz2 : (listT ns).size ≤ 1344 := listT_size HSM.out
    have g1 : ¬ 9223372036854775807 < xId.size + 1 + (listT [x1, x2]).size + 1 := by omega
    have g2 : ¬ 9223372036854775807 < xId.size + 1 + (listT [x1, x2]).size + 1 + (listT ns).size := by omega
    clear ht sm
    go_enter Tryd.func40, Tryd.ntmps40
    go_wp2_with (go_at_call 82; refine (stepValid_ok _ _ _ _ _ _ _ hsId HA.out hn).mono ?_; rintro e w1 ⟨rfl, hb⟩)
    have HC := hid (HC0.out.below hb)
    have HI := hid (HA.out.below hb)
    have k0 := HC.out.2 0 _ rfl
    have k1 := HC.out.2 1 _ rfl
    have k2 := HC.out.2 2 _ rfl
    have k3 := HC.out.2 3 _ rfl
    have hlt : w.heap.size < w1.heap.size := HC.out.1
    have ht1 : Tab w1 := HT.out.below hb
    clear HC HC0 HT hv HA
    go_region_held3 (fun w' => (Tab w' ∧ Below w1.heap.size w1 w') ∧ w'.cell? ⟨w.heap.size, 0, none⟩ = some (.string xId) ∧ w'.cell? ⟨w.heap.size, 1, none⟩ = some (.int .i64 x1) ∧ w'.cell? ⟨w.heap.size, 2, none⟩ = some (.int .i64 x2) ∧ w'.cell? ⟨w.heap.size, 3, none⟩ = some (.slice A ns.length c))
      (first | exact ⟨⟨ht1.drew, (Below.refl _ _).drew⟩, k0, k1, k2, k3⟩ | exact keepT4 hlt ‹_ ∧ _› (below_alloc _ _) | exact keepT4 hlt ‹_ ∧ _› ‹Below _ _ _›)
      (first | (go_at_call 54; refine (named_ok _ _ _ [x1, x2] _ zId (And.left (And.left ‹(Tab _ ∧ _) ∧ _›)) (by first | exact IntsAt.new _ [x1, x2] _ | exact (IntsAt.new _ [x1, x2] _).drew) hsm.out).mono ?_; rintro e w2 ⟨rfl, hb2⟩) | (go_at_call 83; refine (ListText_ok A c ns _ (And.left (And.left ‹(Tab _ ∧ _) ∧ _›)) (HI.out.below (And.right (And.left ‹(Tab _ ∧ _) ∧ _›))) HSM.out).mono ?_; rintro e w2 ⟨rfl, hb2⟩))
    go_wp2_with fail
    go_ret
    obtain ⟨⟨_, hB⟩, _⟩ := ‹(Tab _ ∧ _) ∧ _›
    exact ⟨by simp [stepT, orNo], below_chain hb hB⟩

set_option maxHeartbeats 800000 in
set_option maxRecDepth 100000 in
theorem stepSText_ok (xId : ByteArray) (x1 x2 : Int) (A : Option Addr) (c : Nat) (ns : List Int) (b o : Nat) (w : World) (hv : stepB xId x1 x2 ns = true) (hA : IntsAt w A ns) (hlt : b < w.heap.size) (k0 : w.cell? ⟨b, o, none⟩ = some (.string xId)) (k1 : w.cell? ⟨b, o + 1, none⟩ = some (.int .i64 x1)) (k2 : w.cell? ⟨b, o + 2, none⟩ = some (.int .i64 x2)) (k3 : w.cell? ⟨b, o + 3, none⟩ = some (.slice A ns.length c)) :
    Calls Tryd.prog 80 #[.pointer (some ⟨b, o, none⟩)] w fun e w' => e = .returned (.string (stepT xId x1 x2 ns)) ∧ Below w.heap.size w w' := by
  obtain ⟨zId, ⟨l1, u1⟩, ⟨l2, u2⟩, sm, sp⟩ := stepB_bd hv
  have HSM := hid sm
  have HSP := hid sp
  have HI := hid hA
  have hsm := hid (show Small [x1, x2] from ⟨by simp, by intro n hn; simp at hn; omega⟩)
  have hps : 0 ≤ x1 ∧ 0 ≤ x2 := ⟨l1, l2⟩
  have hsz : (listT [x1, x2]).size ≤ 1344 := listT_size hsm.out
  have hsz2 : (listT ns).size ≤ 1344 := listT_size HSM.out
  have g0 : ¬ 9223372036854775807 < xId.size + 1 := by omega
  have g3 : ¬ 9223372036854775807 < xId.size + 1 + (listT [x1, x2]).size := by omega
  have g1 : ¬ 9223372036854775807 < xId.size + 1 + (listT [x1, x2]).size + 1 := by omega
  have g2 : ¬ 9223372036854775807 < xId.size + 1 + (listT [x1, x2]).size + 1 + (listT ns).size := by omega
  clear hv sm sp hA
  go_enter Tryd.func80, Tryd.ntmps80
  go_wp2_with fail
  go_region_held3 (fun w' => (True ∧ Below w.heap.size w w') ∧ w'.cell? ⟨b, o, none⟩ = some (.string xId) ∧ w'.cell? ⟨b, o + 1, none⟩ = some (.int .i64 x1) ∧ w'.cell? ⟨b, o + 2, none⟩ = some (.int .i64 x2) ∧ w'.cell? ⟨b, o + 3, none⟩ = some (.slice A ns.length c))
    (first | exact ⟨⟨trivial, (Below.refl _ _).drew⟩, k0, k1, k2, k3⟩ | exact keepN4 hlt ‹_ ∧ _› (below_alloc _ _) | exact keepN4 hlt ‹_ ∧ _› ‹Below _ _ _›)
    (first | (go_at_call 95; (with_reducible refine (l01List_twoStep _ _ x1 x2 _ ?_ hsm.out hps).mono ?_); (first | exact IntsAt.new _ [x1, x2] _ | exact (IntsAt.new _ [x1, x2] _).drew); rintro e w2 ⟨rfl, hb2⟩) | (go_at_call 95; (with_reducible refine (l01List_ok A c ns _ (HI.out.below (And.right (And.left ‹(True ∧ _) ∧ _›))) HSM.out HSP.out).mono ?_); rintro e w2 ⟨rfl, hb2⟩))
  go_wp2_with fail
  go_ret
  obtain ⟨⟨_, hB⟩, _⟩ := ‹(_ ∧ Below _ _ _) ∧ _›
  exact ⟨by simp [stepT], hB⟩

theorem specStepText_ok (xId : ByteArray) (x1 x2 : Int) (A : Option Addr) (c : Nat) (ns : List Int) (w : World) (hsId : xId.size ≤ maxLen) (hA : IntsAt w A ns) (hn : ns.length ≤ maxLen) :
    Calls Tryd.prog 38 #[.agg #[.string xId, .int .i64 x1, .int .i64 x2, .slice A ns.length c]] w fun e w' => e = .returned (.string (orNo (stepB xId x1 x2 ns) (stepT xId x1 x2 ns))) ∧ Below w.heap.size w w' := by
  have HC0 := hid (HasC.new w [.string xId, .int .i64 x1, .int .i64 x2, .slice A ns.length c] 73)
  have HA := hid (hA.below (below_alloc w (.cells [.string xId, .int .i64 x1, .int .i64 x2, .slice A ns.length c].toArray 73)))
  clear hA
  cases hv : stepB xId x1 x2 ns
  · clear HC0
    go_enter Tryd.func38, Tryd.ntmps38
    go_wp2_with (go_at_call 79; refine (stepOne_ok xId x1 x2 A c ns _ _ _ hsId HA.out hn (by simp) (by simp) (by simp) (by simp)).mono ?_; rintro e w1 ⟨rfl, hb⟩)
    go_ret
    exact ⟨rfl, below_chain hb (Below.refl _ _)⟩
  · have HV := hid hv
    go_enter Tryd.func38, Tryd.ntmps38
    go_wp2_with (first | (go_at_call 79; refine (stepOne_ok xId x1 x2 A c ns _ _ _ hsId HA.out hn (by simp) (by simp) (by simp) (by simp)).mono ?_; rintro e w1 ⟨rfl, hb⟩; have HC := hid (HC0.out.below hb); have HI := hid (HA.out.below hb); clear HC0) | (go_at_call 80; refine (stepSText_ok xId x1 x2 A c ns _ _ _ HV.out HI.out HC.out.1 (HC.out.2 0 _ rfl) (HC.out.2 1 _ rfl) (HC.out.2 2 _ rfl) (HC.out.2 3 _ rfl)).mono ?_; rintro e w2 ⟨rfl, hb1⟩))
    go_ret
    exact ⟨by simp [orNo], below_chain hb hb1⟩

set_option maxHeartbeats 800000 in
set_option maxRecDepth 100000 in
theorem toStep_ok (xId : ByteArray) (x1 x2 : Int) (A : Option Addr) (c : Nat) (ns : List Int) (w : World) (hA : IntsAt w A ns) (hn : ns.length ≤ 1048576) :
    Calls Tryd.prog 39 #[.agg #[.string xId, .int .i64 x1, .int .i64 x2, .slice A ns.length c]] w fun e w' => (∃ g, e = .returned (.agg #[.string xId, .int .i64 x1, .int .i64 x2, .slice (some ⟨g, 0, none⟩) ns.length ns.length]) ∧ w'.ownsRow w.heap.size 2 1 (.slice (some ⟨g, 0, none⟩) ns.length ns.length) ns.length (ns.map (Value.int .i64))) ∧ Below w.heap.size w w' := by
  have HA := hid hA
  clear hA
  go_enter Tryd.func39, Tryd.ntmps39
  go_wp2_with fail
  refine (toInt64S_ok A c ns _ (((HA.out.below (below_alloc _ _)).below (below_alloc _ _)).below (below_alloc _ _)) hn).mono ?_
  rintro e w1 ⟨v, rfl, ⟨g, rfl⟩, hown, hb⟩
  have hsz : w.heap.size + 3 ≤ w1.heap.size := by have := hb.size; simp at this; omega
  obtain ⟨hc, hf⟩ := bcell hb
  have HO := hid hown
  have HB := hid hb
  clear hown hb
  go_wp2_with fail
  refine bodyPost_ret (v := .agg #[.string xId, .int .i64 x1, .int .i64 x2, .slice (some ⟨g, 0, none⟩) ns.length ns.length]) (by simp [results, Tryd.results39, go_sem, hc]) rfl ⟨⟨g, rfl, ?_⟩, ?_⟩
  · exact own_mono (ownsRow_setCell_below (ownsRow_setCell_below (ownsRow_setCell_below (ownsRow_setCell_below (ownsRow_setCell_below HO.out (by simp) _) (by simp <;> omega) _) (by simp <;> omega) _) (by simp <;> omega) _) (by simp <;> omega) _) (by simp <;> omega)
  · exact (((((((((below_alloc _ _).alloc (by simp) _).alloc (by simp <;> omega) _).trans (HB.out.mono (by simp <;> omega))).setCell (by simp <;> omega) _).setCell (by simp <;> omega) _).setCell (by simp <;> omega) _).setCell (by simp <;> omega) _).setCell (by simp <;> omega) _)

set_option maxHeartbeats 800000 in
set_option maxRecDepth 100000 in
theorem eqStep_same (xId : ByteArray) (x1 x2 : Int) (A A' : Option Addr) (c c' : Nat) (ns : List Int) (w : World) (hA : IntsAt w A ns) (hA' : IntsAt w A' ns) (hn : ns.length ≤ 1048576) :
    Calls Tryd.prog 41 #[.agg #[.string xId, .int .i64 x1, .int .i64 x2, .slice A ns.length c], .agg #[.string xId, .int .i64 x1, .int .i64 x2, .slice A' ns.length c']] w fun e w' => e = .returned (.bool true) ∧ Below w.heap.size w w' := by
  have HA := hid ((hA.below (below_alloc _ (.cells #[.string xId, .int .i64 x1, .int .i64 x2, .slice A ns.length c] 73))).below (below_alloc _ (.cells #[.string xId, .int .i64 x1, .int .i64 x2, .slice A' ns.length c'] 73)))
  have HA' := hid ((hA'.below (below_alloc _ (.cells #[.string xId, .int .i64 x1, .int .i64 x2, .slice A ns.length c] 73))).below (below_alloc _ (.cells #[.string xId, .int .i64 x1, .int .i64 x2, .slice A' ns.length c'] 73)))
  clear hA hA'
  go_enter Tryd.func41, Tryd.ntmps41
  go_wp2_with (go_at_call 84; refine (eqInt64S_same _ _ _ _ _ _ HA.out HA'.out hn).mono ?_; rintro e w1 ⟨rfl, hb⟩)
  go_ret
  exact ⟨rfl, (((below_alloc _ _).alloc (by simp) _).trans (hb.mono (by simp <;> omega)))⟩

theorem szStep_ok (xId : ByteArray) (x1 x2 : Int) (A : Option Addr) (c : Nat) (ns : List Int) (l : Int) (w : World) (hsId : xId.size ≤ maxLen) (hn : ns.length ≤ maxLen) (h0 : 0 ≤ l) (h1 : l ≤ 1048576) :
    Calls Tryd.prog 37 #[.agg #[.string xId, .int .i64 x1, .int .i64 x2, .slice A ns.length c], .int .i64 l] w fun e w' => (∃ z : Int, e = .returned (.int .i64 z) ∧ (0 ≤ z → ns.length ≤ 1048576)) ∧ Below w.heap.size w w' := by
  unfold maxLen at hsId hn
  go_enter Tryd.func37, Tryd.ntmps37
  go_wp2_with (go_at_call 78; refine (szInt64S_ok _ _ _ _ _ hn (by omega) (by omega)).mono ?_; rintro e w1 ⟨rfl, rfl⟩)
  all_goals (go_ret; exact ⟨⟨_, rfl, fun hz => by first | exact absurd hz (by omega) | (have := subSz_le hz; omega)⟩, below_alloc _ _⟩)

set_option maxHeartbeats 1600000 in
set_option maxRecDepth 100000 in
theorem lawStep_ok (xId : ByteArray) (x1 x2 : Int) (A : Option Addr) (c : Nat) (ns : List Int) (w : World) (hsId : xId.size ≤ maxLen) (hA : IntsAt w A ns) (hn : ns.length ≤ maxLen) (ht : Tab w) :
    Calls Tryd.prog 9 #[.agg #[.string xId, .int .i64 x1, .int .i64 x2, .slice A ns.length c]] w fun e w' => e = .returned (.bool true) ∧ Below w.heap.size w w' := by
  have HT := hid (ht.alloc (.cells [.string xId, .int .i64 x1, .int .i64 x2, .slice A ns.length c].toArray 70))
  have HH := hid (HasC.new w [.string xId, .int .i64 x1, .int .i64 x2, .slice A ns.length c] 70)
  have HB := hid (below_alloc w (.cells [.string xId, .int .i64 x1, .int .i64 x2, .slice A ns.length c].toArray 70))
  have HI := hid (hA.below (below_alloc w (.cells [.string xId, .int .i64 x1, .int .i64 x2, .slice A ns.length c].toArray 70)))
  clear ht hA
  go_enter Tryd.func9, Tryd.ntmps9
  go_wp2_with fail
  refine (szStep_ok xId x1 x2 A c ns _ _ hsId hn (by omega) (by omega)).mono ?_
  rintro e w1 ⟨⟨z, rfl, hz⟩, hb⟩
  have HZ := hid hz
  have H1 := hid (HH.out.below hb)
  have T1 := hid (HT.out.below hb)
  have B1 := hid (below_trans HB.out hb)
  have I1 := hid (HI.out.below hb)
  have c0 := H1.out.2 0 _ rfl
  have c1 := H1.out.2 1 _ rfl
  have c2 := H1.out.2 2 _ rfl
  have c3 := H1.out.2 3 _ rfl
  clear hb HT HH HB HI hz
  go_wp2_with fail
  · go_ret
    exact ⟨rfl, B1.out⟩
  have hn2 : ns.length ≤ 1048576 := HZ.out ‹_›
  clear HZ
  refine (toStep_ok xId x1 x2 A c ns _ I1.out hn2).mono ?_
  rintro e w2 ⟨⟨g2, rfl, hown⟩, hb⟩
  have J2 := hid (ints_own hown)
  have H2 := hid (H1.out.below hb)
  have T2 := hid (T1.out.below hb)
  have B2 := hid (below_trans B1.out hb)
  have I2 := hid (I1.out.below hb)
  clear hb H1 T1 B1 I1 c0 c1 c2 c3 hown
  go_wp2_with fail
  refine (specStepText_ok xId x1 x2 _ _ ns _ hsId J2.out hn).mono ?_
  rintro e w3 ⟨rfl, hb⟩
  have H3 := hid (H2.out.below hb)
  have T3 := hid (T2.out.below hb)
  have B3 := hid (below_trans B2.out hb)
  have I3 := hid (I2.out.below hb)
  have c0 := H3.out.2 0 _ rfl
  have c1 := H3.out.2 1 _ rfl
  have c2 := H3.out.2 2 _ rfl
  have c3 := H3.out.2 3 _ rfl
  clear hb H2 T2 B2 I2 J2
  go_wp2_with fail
  refine (toStep_ok xId x1 x2 A c ns _ I3.out hn2).mono ?_
  rintro e w4 ⟨⟨g4, rfl, hown⟩, hb⟩
  have X4 := hid (HasC.new w4 [.string xId, .int .i64 x1, .int .i64 x2, .slice (some ⟨g4, 0, none⟩) ns.length ns.length] 73)
  have A4 := hid (below_alloc w4 (.cells [.string xId, .int .i64 x1, .int .i64 x2, .slice (some ⟨g4, 0, none⟩) ns.length ns.length].toArray 73))
  have J4 := hid ((ints_own hown).below A4.out)
  have H4 := hid ((H3.out.below hb).below A4.out)
  have T4 := hid ((T3.out.below hb).below A4.out)
  have B4 := hid (below_trans (below_trans B3.out hb) A4.out)
  have I4 := hid ((I3.out.below hb).below A4.out)
  clear hb H3 T3 B3 I3 c0 c1 c2 c3 hown A4
  go_wp2_with fail
  refine (StepText_ok xId x1 x2 _ _ ns _ hsId J4.out hn T4.out).mono ?_
  rintro e w5 ⟨rfl, hb⟩
  have X5 := hid (X4.out.below hb)
  have H5 := hid (H4.out.below hb)
  have B5 := hid (below_trans B4.out hb)
  have I5 := hid (I4.out.below hb)
  have J5 := hid (J4.out.below hb)
  have d0 := X5.out.2 0 _ rfl
  have d1 := X5.out.2 1 _ rfl
  have d2 := X5.out.2 2 _ rfl
  have d3 := X5.out.2 3 _ rfl
  have c0 := H5.out.2 0 _ rfl
  have c1 := H5.out.2 1 _ rfl
  have c2 := H5.out.2 2 _ rfl
  have c3 := H5.out.2 3 _ rfl
  have q1 : w.heap.size < w5.heap.size := H5.out.1
  have q2 : w4.heap.size < w5.heap.size := X5.out.1
  clear hb X4 H4 T4 B4 I4 J4
  go_wp2_with fail
  go_region_held3 (fun w' => (True ∧ Below w5.heap.size w5 w') ∧ w'.cell? ⟨w.heap.size, 0, none⟩ = some (.string xId) ∧ w'.cell? ⟨w.heap.size, 1, none⟩ = some (.int .i64 x1) ∧ w'.cell? ⟨w.heap.size, 2, none⟩ = some (.int .i64 x2) ∧ w'.cell? ⟨w.heap.size, 3, none⟩ = some (.slice A ns.length c) ∧ w'.cell? ⟨w4.heap.size, 0, none⟩ = some (.string xId) ∧ w'.cell? ⟨w4.heap.size, 1, none⟩ = some (.int .i64 x1) ∧ w'.cell? ⟨w4.heap.size, 2, none⟩ = some (.int .i64 x2) ∧ w'.cell? ⟨w4.heap.size, 3, none⟩ = some (.slice (some ⟨g4, 0, none⟩) ns.length ns.length))
    (first | exact ⟨⟨trivial, (Below.refl _ _).drew⟩, c0, c1, c2, c3, d0, d1, d2, d3⟩ | exact keepM8 q1 q1 q1 q1 q2 q2 q2 q2 ‹_ ∧ _› ‹Below _ _ _›)
    (first | (go_at_call 39; refine (toStep_ok xId x1 x2 A c ns _ (I5.out.below (And.right (And.left ‹(True ∧ _) ∧ _›))) hn2).mono ?_; rintro e w6 ⟨⟨g6, rfl, hown6⟩, hb6⟩) | (go_at_call 41; refine (eqStep_same xId x1 x2 _ _ _ _ ns _ (J5.out.below (And.right (And.left ‹(True ∧ _) ∧ _›))) (ints_own hown6) hn2).mono ?_; rintro e w7 ⟨rfl, hb7⟩))
  go_wp2_with fail
  go_ret
  obtain ⟨⟨_, hB⟩, _⟩ := ‹(_ ∧ Below _ _ _) ∧ _›
  exact ⟨rfl, below_trans B5.out hB⟩

end Go.Proofs.YtdjobekjfggndabDoor
