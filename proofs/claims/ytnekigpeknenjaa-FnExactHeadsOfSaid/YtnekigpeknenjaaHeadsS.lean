/- HeadsOf: the reference. -/
import Derived.Test.YtnekigpeknenjaaHeads
namespace Go.Proofs.Ytnekigpeknenjaa
open Go.RowKit
set_option linter.unusedVariables false

def noPar (xs : List DVersion) (q : Nat) (num : Int) : Bool := !((xs.take q).any (fun x => x.fParent == num))
theorem noPar_zero (xs : List DVersion) (num : Int) : noPar xs 0 num = true := by simp [noPar]
theorem noPar_next {xs : List DVersion} {q : Nat} {num : Int} (hq : q < xs.length) : noPar xs (q + 1) num = (noPar xs q num && (xs[q].fParent != num)) := by
  simp only [noPar, List.take_succ_eq_append_getElem hq, List.any_append, List.any_cons, List.any_nil, Bool.or_false, Bool.not_or, bne]
theorem noPar_all (xs : List DVersion) (num : Int) : noPar xs xs.length num = !(parB xs num) := by
  simp only [noPar, parB, List.take_of_length_le (Nat.le_refl _)]

set_option maxHeartbeats 1600000 in
set_option maxRecDepth 100000 in
theorem specHeads_ok (A : Option Addr) (c : Nat) (xs : List DVersion) (w : World) (hA : NestAt 2 hdVersion inVersion w A xs) (hok : ∀ x ∈ xs, x.ok) (hn : xs.length ≤ 1048576) (hi : ∀ x ∈ xs, x.fIn.length ≤ 1048576) :
    Calls Try.prog 48 #[.slice A xs.length c] w (RetIC w (fHeads xs)) := by
  have HA := hid hA
  have HK := hid hok
  have HI := hid hi
  clear hA hok hi
  cases c1 : histB xs
  · have HF := hid (show fHeads xs = ([], 1) by unfold fHeads; rw [if_pos c1])
    go_enter Try.func48, Try.ntmps48
    go_wp2_with fail
    refine (l27Ok_ok A c xs _ HA.out HK.out hn HI.out).mono ?_
    rintro e w1 ⟨rfl, hb⟩
    go_wp2_with fail
    go_ret2
    exact RetIC.nil HF.out hb
  have HF := hid (show fHeads xs = (headsTo xs xs.length, 0) by unfold fHeads; rw [if_neg (by rw [c1]; exact fun h => by cases h)])
  have hl32 := (histB_iff.1 c1).2
  go_enter Try.func48, Try.ntmps48
  go_wp2_with fail
  refine (l27Ok_ok A c xs _ HA.out HK.out hn HI.out).mono ?_
  rintro e w1 ⟨rfl, hb1⟩
  go_wp2_with fail
  go_loopw [4, 5] (fun v i wr => ∃ k : Nat, k ≤ xs.length ∧ i = .int .i64 k ∧ wr.ownsRow w1.heap.size 2 1 v (headsTo xs k).length ((headsTo xs k).map (Value.int .i64)) ∧ Below w1.heap.size w1 wr) (fun _ i _ => xs.length - (intOf i).toNat)
  case atStart => exact ⟨0, Nat.zero_le _, rfl, World.ownsRow_lit _ _ 0 (Nat.le_refl _) (by unfold maxLen; omega) rfl, below_alloc _ _⟩
  case round =>
    obtain ⟨k, hk, rfl, hown, hbel⟩ := hrel
    have HO := hid hown
    have HB := hid hbel
    clear hown hbel
    have hdl := headsTo_len xs k
    by_cases hkl : k < xs.length
    · rename World => wo
      have q0 : (0 : Int) ≤ (k : Int) := by omega
      have q1 : (k : Int) < xs.length := by omega
      go_wp2_with fail
      go_loopw [6, 7] (fun h m ws => ∃ q : Nat, q ≤ xs.length ∧ m = .int .i64 q ∧ h = .bool (noPar xs q xs[k].fNumber) ∧ Below wo.heap.size wo ws) (fun _ m _ => xs.length - (intOf m).toNat)
      case atStart => exact ⟨0, Nat.zero_le _, rfl, by rw [noPar_zero], Below.refl _ _⟩
      case round =>
        obtain ⟨q, hq, rfl, rfl, hbel⟩ := hrel
        have HW := hid hbel
        clear hbel
        by_cases hql : q < xs.length
        · have q2 : (0 : Int) ≤ (q : Int) := by omega
          have q3 : (q : Int) < xs.length := by omega
          have NX := hid (noPar_next (num := xs[k].fNumber) hql)
          obtain ⟨b, o, _, _, hA1, hlt, hk0, _, _, _, _⟩ := (((HA.out.below hb1).below HB.out).below HW.out).atVersion hkl
          obtain ⟨b', o', _, _, hA2, _, _, hp1, _, _, _⟩ := (((HA.out.below hb1).below HB.out).below HW.out).atVersion hql
          subst hA1
          injection hA2 with hA2
          injection hA2 with hA2 ho2
          subst hA2 ho2
          cases d : noPar xs q xs[k].fNumber
          · have HS := hid (show false = noPar xs (q + 1) xs[k].fNumber by rw [NX.out, d, Bool.false_and])
            clear d
            go_wp2_with fail
            go_quiet (fail)
            go_wp2_with fail
            go_roundw
            case rel => exact ⟨q + 1, by omega, by go_num, by rw [← HS.out], below_drewN' HW.out _⟩
            case measure => simp [intOf]; omega
          · cases d2 : (xs[q].fParent != xs[k].fNumber)
            all_goals
              have HS := hid (show (xs[q].fParent != xs[k].fNumber) = noPar xs (q + 1) xs[k].fNumber by rw [NX.out, d, Bool.true_and])
              clear d
              go_wp2_with fail
              go_quiet (fail)
              go_wp2_with fail
              go_roundw
              case rel => exact ⟨q + 1, by omega, by go_num, by rw [← HS.out, d2], below_drewN' HW.out _⟩
              case measure => simp [intOf]; omega
        · have hq2 : q = xs.length := by omega
          subst hq2
          have HN := hid (noPar_all xs xs[k].fNumber)
          obtain ⟨b, o, _, _, rfl, hlt, hk0, _, _, _, _⟩ := (((HA.out.below hb1).below HB.out).below HW.out).atVersion hkl
          have O5 := hid (own_below HO.out HW.out)
          have B5 := hid (below_trans HB.out HW.out)
          cases d : parB xs xs[k].fNumber
          · have e0 : noPar xs xs.length xs[k].fNumber = true := by rw [HN.out, d]; rfl
            have HS := hid (headsTo_yes hkl d)
            clear d
            rw [e0]
            clear e0
            go_wp2_with (at_builtin; refine wpList_app (w0 := w1) rfl (.tmp 39) (.tmp 45) 23 rfl w1.heap.size 2 (.int .i64 0) 1 8 Try.underlying23 infoI rfl (by decide) _ _ _ rfl O5.out #[.int .i64 xs[k].fNumber] 1 1 rfl rfl (by simp [Value.oneCell']) (by omega) B5.out.size B5.out ?_; intro v1 w6 hown1 hbel1 hz1 _)
            go_roundw
            case rel => exact ⟨k + 1, by omega, by go_num, by rw [HS.out, List.length_append, List.map_append]; exact hown1, hbel1⟩
            case measure => simp [intOf]; omega
          · have e0 : noPar xs xs.length xs[k].fNumber = false := by rw [HN.out, d]; rfl
            have HS := hid (headsTo_no hkl d)
            clear d
            rw [e0]
            clear e0
            go_wp2_with fail
            go_roundw
            case rel => exact ⟨k + 1, by omega, by go_num, by rw [HS.out]; exact O5.out, B5.out⟩
            case measure => simp [intOf]; omega
    · have hk2 : k = xs.length := by omega
      subst hk2
      go_wp2_with fail
      go_ret2
      exact RetIC.own HF.out (own_mono HO.out hb1.size) (below_trans hb1 HB.out)

end Go.Proofs.Ytnekigpeknenjaa
