/- impl's VersionText. -/
import Derived.Test.YtdjobekjfggndabDoorVersion
namespace Go.Proofs.YtdjobekjfggndabDoor
open Go.RowKit
set_option linter.unusedVariables false

set_option maxHeartbeats 1600000 in
set_option maxRecDepth 100000 in
theorem VersionText_ok (n p : Int) (memo : ByteArray) (A : Option Addr) (c : Nat) (xs : List DSetting) (w : World) (hm : memo.size ≤ maxLen) (hA : RowsAt w 2 A (xs.map DSetting.cells)) (hok : ∀ x ∈ xs, x.ok) (hn : xs.length ≤ 1048576) (ht : Tab w) :
    Calls Tryd.prog 35 #[.agg #[.int .i64 n, .int .i64 p, .string memo, .slice A xs.length c]] w fun e w' => e = .returned (.string (orNo (versionB n p memo xs) (versionT n p memo xs))) ∧ Below w.heap.size w w' := by
  have HA := hid (hA.below (below_alloc w (.cells [.int .i64 n, .int .i64 p, .string memo, .slice A xs.length c].toArray 64)))
  have HK := hid hok
  clear hA hok
  cases hv : versionB n p memo xs
  · clear ht
    have HV := hid hv
    cases v1 : inB n 1 32
    · clear hv
      go_enter Tryd.func35, Tryd.ntmps35
      go_wp2_with (go_at_call 73; refine (within_ok _ _ _ _).mono ?_; rintro e w' ⟨rfl, rfl⟩)
      go_ret
      exact ⟨rfl, below_alloc _ _⟩
    have bn := inB_iff.1 v1
    cases v2 : inB p 0 (n - 1)
    · clear hv
      go_enter Tryd.func35, Tryd.ntmps35
      go_wp2_with (go_at_call 73; refine (within_ok _ _ _ _).mono ?_; rintro e w' ⟨rfl, rfl⟩)
      go_ret
      exact ⟨rfl, below_alloc _ _⟩
    cases v3 : memoB memo
    · clear hv
      go_enter Tryd.func35, Tryd.ntmps35
      go_wp2_with (first | (go_at_call 73; refine (within_ok _ _ _ _).mono ?_; rintro e w' ⟨rfl, rfl⟩) | (go_at_call 74; refine (isMemo_ok _ _ hm).mono ?_; rintro e w' ⟨rfl, rfl⟩))
      go_ret
      exact ⟨rfl, below_alloc _ _⟩
    have v4 : stateB xs = false := by simpa [versionB, v1, v2, v3] using hv
    clear hv
    go_enter Tryd.func35, Tryd.ntmps35
    go_wp2_with (first | (go_at_call 73; refine (within_ok _ _ _ _).mono ?_; rintro e w' ⟨rfl, rfl⟩) | (go_at_call 74; refine (isMemo_ok _ _ hm).mono ?_; rintro e w' ⟨rfl, rfl⟩) | (go_at_call 75; refine (ValidState_ok _ _ _ _ HA.out HK.out hn).mono ?_; rintro e w1 ⟨rfl, hb⟩))
    go_ret
    exact ⟨rfl, below_chain hb (Below.refl _ _)⟩
  · obtain ⟨bn, bp, bm, bs⟩ := versionB_bd hv
    have HS := hid bs
    simp only [versionB, Bool.and_eq_true] at hv
    obtain ⟨v1, v2, v3, v4⟩ := hv
    have HC0 := hid (HasC.new w [.int .i64 n, .int .i64 p, .string memo, .slice A xs.length c] 64)
    have HT := hid (ht.alloc (.cells [.int .i64 n, .int .i64 p, .string memo, .slice A xs.length c].toArray 64))
    have s1 : (dec n).size ≤ 20 := dec_size (by omega) (by omega)
    have s2 : (dec p).size ≤ 20 := dec_size (by omega) (by omega)
    have g1 : ¬ 9223372036854775807 < (dec n).size + 1 := by omega
    have g2 : ¬ 9223372036854775807 < (dec n).size + 1 + (dec p).size := by omega
    clear ht bs
    go_enter Tryd.func35, Tryd.ntmps35
    go_wp2_with (first | (go_at_call 73; refine (within_ok _ _ _ _).mono ?_; rintro e w' ⟨rfl, rfl⟩) | (go_at_call 74; refine (isMemo_ok _ _ hm).mono ?_; rintro e w' ⟨rfl, rfl⟩) | (go_at_call 75; refine (ValidState_ok _ _ _ _ HA.out HK.out hn).mono ?_; rintro e w1 ⟨rfl, hb⟩))
    have HC := hid (HC0.out.below hb)
    have HI := hid (HA.out.below hb)
    have k0 := HC.out.2 0 _ rfl
    have k1 := HC.out.2 1 _ rfl
    have k2 := HC.out.2 2 _ rfl
    have k3 := HC.out.2 3 _ rfl
    have hlt : w.heap.size < w1.heap.size := HC.out.1
    have ht1 : Tab w1 := HT.out.below hb
    have HB := hid hb
    clear HC0 HT HA v1 v2 v3 v4 hb
    go_region_held3 (fun w' => (Tab w' ∧ Below w1.heap.size w1 w') ∧ w'.cell? ⟨w.heap.size, 0, none⟩ = some (.int .i64 n) ∧ w'.cell? ⟨w.heap.size, 1, none⟩ = some (.int .i64 p) ∧ w'.cell? ⟨w.heap.size, 2, none⟩ = some (.string memo) ∧ w'.cell? ⟨w.heap.size, 3, none⟩ = some (.slice A xs.length c))
      (first | exact ⟨⟨ht1.drew, (Below.refl _ _).drew⟩, k0, k1, k2, k3⟩ | exact keepT4 hlt ‹_ ∧ _› ‹Below _ _ _›)
      (first | (go_at_call 76; refine (Decimal_ok _ _ (by omega) (by omega) (And.left (And.left ‹(Tab _ ∧ _) ∧ _›))).mono ?_; rintro e w2 ⟨rfl, hb2⟩))
    obtain ⟨⟨t2, hB⟩, m0, m1, m2, m3⟩ := ‹(Tab _ ∧ _) ∧ _›
    go_wp2_with fail
    have HM := hid (show HasC w2 w.heap.size [.int .i64 n, .int .i64 p, .string memo, .slice A xs.length c] from HC.out.below hB)
    have H2 := hid (HI.out.below hB)
    have T2 := hid t2
    have B2 := hid (below_trans (below_chain HB.out (Below.refl _ _)) hB)
    clear HI HC HB t2 hB m0 m1 m2 m3 k0 k1 k2 k3 ht1 hlt
    generalize htb : dec n ++ ⟨#[60]⟩ ++ dec p = tb
    have stb : tb.size ≤ 41 := by rw [← htb]; simp; have e1 : (ByteArray.mk #[60]).size = 1 := rfl; omega
    go_loopw [3, 42] (fun tx i wr => ∃ k : Nat, k ≤ xs.length ∧ i = .int .i64 k ∧ tx = .string (setsT tb xs k) ∧ Below w2.heap.size w2 wr) (fun _ i _ => xs.length - (intOf i).toNat)
    case atStart => exact ⟨0, Nat.zero_le _, rfl, rfl, Below.refl _ _⟩
    case round =>
      obtain ⟨k, hk, rfl, rfl, hbel⟩ := hrel
      have hst := setsT_size tb HS.out k hk
      have hx24 := (stateB_iff.1 HS.out).2
      by_cases hkl : k < xs.length
      · have hsb := ((stateB_iff.1 HS.out).1 k hkl hkl).1
        have hsz := setT_size hsb
        simp only [setB, Bool.and_eq_true] at hsb
        have h1 := name_size hsb.1
        have h2 := inB_iff.1 hsb.2
        have h3 : (dec xs[k].fValue).size ≤ 20 := dec_size (by omega) (by omega)
        have f1 : ¬ 9223372036854775807 < 1 + xs[k].fName.size := by omega
        have f2 : ¬ 9223372036854775807 < 1 + xs[k].fName.size + 1 := by omega
        have f3 : ¬ 9223372036854775807 < 1 + xs[k].fName.size + 1 + (dec xs[k].fValue).size := by omega
        have f4 : ¬ 9223372036854775807 < (setsT tb xs k).size + (1 + xs[k].fName.size + 1 + (dec xs[k].fValue).size) := by omega
        have hne : xs.map DSetting.cells ≠ [] := by intro e; rw [List.map_eq_nil_iff] at e; rw [e] at hkl; exact absurd hkl (by simp)
        obtain ⟨b, o, rfl, hlt, hc⟩ := (H2.out.below hbel) hne
        have hc0 : wr.cell? ⟨b, o + k * 2, none⟩ = some (.string xs[k].fName) := hc k _ (by rw [List.getElem?_map, List.getElem?_eq_getElem hkl]; rfl) 0 _ rfl
        have hc1 : wr.cell? ⟨b, o + k * 2 + 1, none⟩ = some (.int .i64 xs[k].fValue) := hc k _ (by rw [List.getElem?_map, List.getElem?_eq_getElem hkl]; rfl) 1 _ rfl
        have q0 : (0 : Int) ≤ (k : Int) := by omega
        have q1 : (k : Int) < xs.length := by omega
        have NC := hid (HasC.new wr [.string xs[k].fName, .int .i64 xs[k].fValue] 115)
        have n0 := NC.out.2 0 _ rfl
        have n1 := NC.out.2 1 _ rfl
        have nl : wr.heap.size < (wr.alloc (.cells #[.string xs[k].fName, .int .i64 xs[k].fValue] 115)).heap.size := NC.out.1
        have tn : Tab (wr.alloc (.cells #[.string xs[k].fName, .int .i64 xs[k].fValue] 115)) := (T2.out.below hbel).alloc _
        have BW := hid hbel
        clear hc hne hbel hsb
        go_wp2_with fail
        go_region_held3 (fun w' => (Tab w' ∧ Below (wr.alloc (.cells #[.string xs[k].fName, .int .i64 xs[k].fValue] 115)).heap.size (wr.alloc (.cells #[.string xs[k].fName, .int .i64 xs[k].fValue] 115)) w') ∧ w'.cell? ⟨wr.heap.size, 0, none⟩ = some (.string xs[k].fName) ∧ w'.cell? ⟨wr.heap.size, 1, none⟩ = some (.int .i64 xs[k].fValue))
          (first | exact ⟨⟨tn.drew, (Below.refl _ _).drew⟩, n0, n1⟩ | exact keepT2 nl ‹_ ∧ _› ‹Below _ _ _›)
          (first | (go_at_call 76; refine (Decimal_ok _ _ (by omega) (by omega) (And.left (And.left ‹(Tab _ ∧ _) ∧ _›))).mono ?_; rintro e w3 ⟨rfl, hb3⟩))
        obtain ⟨⟨_, hB⟩, _⟩ := ‹(Tab _ ∧ _) ∧ _›
        have B3 := hid (below_trans BW.out (below_chain hB (Below.refl _ _)))
        clear hB
        go_wp2_with fail
        go_roundw
        case rel => exact ⟨k + 1, by omega, by go_num, by rw [setsT_succ tb hkl]; rfl, B3.out⟩
        case measure => simp [intOf]; omega
      · have hk2 : k = xs.length := by omega
        subst hk2
        have HM2 := hid (HM.out.below hbel)
        have k2 := HM2.out.2 2 _ rfl
        have BW := hid hbel
        have f4 : ¬ 9223372036854775807 < (setsT tb xs xs.length).size + (3 + memo.size) := by omega
        have f3 : ¬ 9223372036854775807 < 3 + memo.size := by omega
        clear hbel
        rcases Nat.eq_zero_or_pos memo.size with h0 | h0
        · have e1 := toList_nil h0
          go_wp2_with fail
          go_ret
          exact ⟨congrArg (fun t => Ending.returned (.string t)) (versionT_no htb h0), below_trans B2.out BW.out⟩
        · have e1 := isEmpty_ne h0
          have e2 := toList_ne h0
          go_wp2_with fail
          go_ret
          exact ⟨congrArg (fun t => Ending.returned (.string t)) (versionT_memo htb h0), below_trans B2.out BW.out⟩

end Go.Proofs.YtdjobekjfggndabDoor
