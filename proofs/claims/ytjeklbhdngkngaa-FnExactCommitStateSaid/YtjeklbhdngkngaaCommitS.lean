/- CommitState and its reference. -/
import Derived.Test.YtjeklbhdngkngaaCommit
import Derived.Test.YtjeklbhdngkngaaRVersion
namespace Go.Proofs.Ytjeklbhdngkngaa
open Go.RowKit
set_option linter.unusedVariables false

noncomputable def fCommit (xs : List DVersion) (m : Int) (memo : ByteArray) (st : List DSetting) : List DVersion × Int :=
  if (histB xs && memoB memo && stateB st) = false then ([], 1) else if m ≠ 0 ∧ inB m 1 xs.length = false then ([], 3) else fAdd xs m memo st
theorem fAdd_small {xs : List DVersion} {m : Int} {memo : ByteArray} {st : List DSetting} (h : xs.length ≤ 32) : (fAdd xs m memo st).1.length ≤ 33 := by
  unfold fAdd
  split
  · simp
  · rw [List.length_append]; simp; omega
theorem fCommit_small (xs : List DVersion) (m : Int) (memo : ByteArray) (st : List DSetting) : (fCommit xs m memo st).1.length ≤ 33 := by
  unfold fCommit
  split
  · simp
  · rename_i h
    split
    · simp
    · refine fAdd_small ?_
      have h1 : histB xs = true := by
        cases e : histB xs
        · rw [e] at h; simp at h
        · rfl
      exact (histB_iff.1 h1).2
theorem fCommit_in {xs : List DVersion} {m : Int} {memo : ByteArray} {st : List DSetting} (hi : ∀ x ∈ xs, x.fIn.length ≤ 1048576) (hs : st.length ≤ 1048576) : ∀ x ∈ (fCommit xs m memo st).1, x.fIn.length ≤ 1048576 := by
  unfold fCommit
  split
  · intro x hx; cases hx
  · split
    · intro x hx; cases hx
    · unfold fAdd
      split
      · intro x hx; cases hx
      · intro x hx
        rcases List.mem_append.1 hx with hx | hx
        · exact hi x hx
        · have : x = newV xs m memo st := by simpa using hx
          rw [this]
          exact hs
theorem endV_pos : ∀ (z : Int) (vs : List DVersion), 0 < z → 0 < endV z vs
  | _, [], h => h
  | z, x :: r, h => endV_pos (nextV z x) r (by unfold nextV; omega)

theorem isv_impl (A : Option Addr) (c n : Nat) (m : Int) (w : World) (hn : n ≤ 32) (hr : -9223372036854775808 ≤ m ∧ m ≤ 9223372036854775807) {v : Bool} (h : inB m 1 n = v) : Calls Try.prog 90 #[.slice A n c, .int .i64 m] w fun e w' => e = .returned (.bool v) ∧ w = w' := by
  subst h
  exact isVersion_ok A c n m w (by omega) hr.1 hr.2

set_option maxHeartbeats 3200000 in
set_option maxRecDepth 100000 in
theorem implCommit_ok (g0 : Nat) (xs : List DVersion) (m : Int) (memo : ByteArray) (g1 : Nat) (st : List DSetting) (w : World) (hA : NestB 2 hdVersion inVersion w g0 xs) (hok : ∀ x ∈ xs, x.ok) (hn : xs.length ≤ 1048576) (hi : ∀ x ∈ xs, x.fIn.length ≤ 1048576) (hme : memo.size ≤ maxLen) (hS : RowsAt w 2 (some ⟨g1, 0, none⟩) (st.map DSetting.cells)) (hks : ∀ x ∈ st, x.ok) (hns : st.length ≤ 1048576) (hr : -9223372036854775808 ≤ m ∧ m ≤ 9223372036854775807) :
    Calls Try.prog 26 #[.slice (some ⟨g0, 0, none⟩) xs.length xs.length, .int .i64 m, .string memo, .slice (some ⟨g1, 0, none⟩) st.length st.length] w (RetVC w (fCommit xs m memo st)) := by
  have HA := hid hA
  have HK := hid hok
  have HI := hid hi
  have HS := hid hS
  have HKS := hid hks
  clear hA hok hi hS hks
  cases c1 : histB xs
  · have HF := hid (show fCommit xs m memo st = ([], 1) by unfold fCommit; rw [if_pos (by rw [c1]; rfl)])
    go_enter Try.func26, Try.ntmps26
    go_wp2_with (go_at_call 88; refine (ValidHistory_ok _ _ xs _ HA.out.at HK.out hn HI.out).mono ?_; rintro e w1 ⟨rfl, hb⟩; have B1 := hid hb; clear hb)
    go_ret2
    exact RetVC.nil HF.out B1.out
  cases c2 : memoB memo
  · have HF := hid (show fCommit xs m memo st = ([], 1) by unfold fCommit; rw [if_pos (by rw [c1, c2]; rfl)])
    go_enter Try.func26, Try.ntmps26
    go_wp2_with (first | (go_at_call 88; refine (ValidHistory_ok _ _ xs _ HA.out.at HK.out hn HI.out).mono ?_; rintro e w1 ⟨rfl, hb⟩; have B1 := hid hb; clear hb) | (go_at_call 89; refine (isMemo_ok memo _ hme).mono ?_; rintro e w' ⟨rfl, rfl⟩))
    go_ret2
    exact RetVC.nil HF.out B1.out
  cases c3 : stateB st
  · have HF := hid (show fCommit xs m memo st = ([], 1) by unfold fCommit; rw [if_pos (by rw [c1, c2, c3]; rfl)])
    go_enter Try.func26, Try.ntmps26
    go_wp2_with (first | (go_at_call 65; refine (ValidState_ok _ _ st _ (HS.out.below B1.out) HKS.out hns).mono ?_; rintro e w3 ⟨rfl, hb⟩; have B3 := hid (below_trans B1.out hb); clear hb) | (go_at_call 88; refine (ValidHistory_ok _ _ xs _ HA.out.at HK.out hn HI.out).mono ?_; rintro e w1 ⟨rfl, hb⟩; have B1 := hid hb; clear hb) | (go_at_call 89; refine (isMemo_ok memo _ hme).mono ?_; rintro e w' ⟨rfl, rfl⟩))
    go_ret2
    exact RetVC.nil HF.out B3.out
  have HL := hid (histB_iff.1 c1).2
  have HT := hid (show ¬ ((histB xs && memoB memo && stateB st) = false) by rw [c1, c2, c3]; simp)
  by_cases h0 : m = 0
  · have HF := hid (show fCommit xs m memo st = fAdd xs m memo st by unfold fCommit; rw [if_neg HT.out, if_neg (by intro h; exact h.1 h0)])
    have d1 : (m == 0) = true := by rw [beq_iff_eq]; exact h0
    have d2 : (m != 0) = false := by rw [h0]; rfl
    clear h0
    go_enter Try.func26, Try.ntmps26
    go_wp2_with (first | (go_at_call 65; refine (ValidState_ok _ _ st _ (HS.out.below B1.out) HKS.out hns).mono ?_; rintro e w3 ⟨rfl, hb⟩; have B3 := hid (below_trans B1.out hb); clear hb) | (go_at_call 88; refine (ValidHistory_ok _ _ xs _ HA.out.at HK.out hn HI.out).mono ?_; rintro e w1 ⟨rfl, hb⟩; have B1 := hid hb; clear hb) | (go_at_call 89; refine (isMemo_ok memo _ hme).mono ?_; rintro e w' ⟨rfl, rfl⟩))
    refine (commit_ok g0 xs m memo g1 st _ (HA.out.below B3.out) HL.out HI.out (HS.out.below B3.out) hns).mono ?_
    rintro e w9 ⟨A9, c9, rfl, hN, hb⟩
    have N9 := hid hN
    have B9 := hid (below_trans B3.out hb)
    have hsz := B3.out.size
    clear hN hb
    go_wp2_with fail
    go_ret2
    rw [HF.out]
    refine ⟨A9, c9, rfl, ?_, B9.out⟩
    rcases N9.out with h | ⟨g, ps, hA, h⟩
    · exact .inl h
    · exact .inr ⟨g, ps, hA, h.wide hsz (Nat.le_refl _)⟩
  have d1 : (m == 0) = false := by rw [beq_eq_false_iff_ne]; exact h0
  have d2 : (m != 0) = true := by rw [bne_iff_ne]; exact h0
  cases c4 : inB m 1 xs.length
  · have HF := hid (show fCommit xs m memo st = ([], 3) by unfold fCommit; rw [if_neg HT.out, if_pos ⟨h0, c4⟩])
    go_enter Try.func26, Try.ntmps26
    go_wp2_with (first | (go_at_call 65; refine (ValidState_ok _ _ st _ (HS.out.below B1.out) HKS.out hns).mono ?_; rintro e w3 ⟨rfl, hb⟩; have B3 := hid (below_trans B1.out hb); clear hb) | (go_at_call 88; refine (ValidHistory_ok _ _ xs _ HA.out.at HK.out hn HI.out).mono ?_; rintro e w1 ⟨rfl, hb⟩; have B1 := hid hb; clear hb) | (go_at_call 89; refine (isMemo_ok memo _ hme).mono ?_; rintro e w' ⟨rfl, rfl⟩) | (go_at_call 90; refine (isv_impl _ _ _ _ _ HL.out hr c4).mono ?_; rintro e w' ⟨rfl, rfl⟩))
    go_ret2
    exact RetVC.nil HF.out B3.out
  · have HF := hid (show fCommit xs m memo st = fAdd xs m memo st by unfold fCommit; rw [if_neg HT.out, if_neg (by rintro ⟨_, h⟩; rw [c4] at h; cases h)])
    go_enter Try.func26, Try.ntmps26
    go_wp2_with (first | (go_at_call 65; refine (ValidState_ok _ _ st _ (HS.out.below B1.out) HKS.out hns).mono ?_; rintro e w3 ⟨rfl, hb⟩; have B3 := hid (below_trans B1.out hb); clear hb) | (go_at_call 88; refine (ValidHistory_ok _ _ xs _ HA.out.at HK.out hn HI.out).mono ?_; rintro e w1 ⟨rfl, hb⟩; have B1 := hid hb; clear hb) | (go_at_call 89; refine (isMemo_ok memo _ hme).mono ?_; rintro e w' ⟨rfl, rfl⟩) | (go_at_call 90; refine (isv_impl _ _ _ _ _ HL.out hr c4).mono ?_; rintro e w' ⟨rfl, rfl⟩))
    refine (commit_ok g0 xs m memo g1 st _ (HA.out.below B3.out) HL.out HI.out (HS.out.below B3.out) hns).mono ?_
    rintro e w9 ⟨A9, c9, rfl, hN, hb⟩
    have N9 := hid hN
    have B9 := hid (below_trans B3.out hb)
    have hsz := B3.out.size
    clear hN hb
    go_wp2_with fail
    go_ret2
    rw [HF.out]
    refine ⟨A9, c9, rfl, ?_, B9.out⟩
    rcases N9.out with h | ⟨g, ps, hA, h⟩
    · exact .inl h
    · exact .inr ⟨g, ps, hA, h.wide hsz (Nat.le_refl _)⟩

theorem isv_spec (A : Option Addr) (c n : Nat) (m : Int) (w : World) (hn : n ≤ 32) (hr : -9223372036854775808 ≤ m ∧ m ≤ 9223372036854775807) {v : Bool} (h : inB m 1 n = v) : Calls Try.prog 85 #[.slice A n c, .int .i64 m] w fun e w' => e = .returned (.bool v) ∧ w = w' := by
  subst h
  exact l27Number_ok A c n m w

set_option maxHeartbeats 3200000 in
set_option maxRecDepth 100000 in
theorem specCommit_ok (g0 : Nat) (xs : List DVersion) (m : Int) (memo : ByteArray) (g1 : Nat) (st : List DSetting) (w : World) (hA : NestB 2 hdVersion inVersion w g0 xs) (hok : ∀ x ∈ xs, x.ok) (hn : xs.length ≤ 1048576) (hi : ∀ x ∈ xs, x.fIn.length ≤ 1048576) (hme : memo.size ≤ maxLen) (hS : RowsAt w 2 (some ⟨g1, 0, none⟩) (st.map DSetting.cells)) (hks : ∀ x ∈ st, x.ok) (hns : st.length ≤ 1048576) (hr : -9223372036854775808 ≤ m ∧ m ≤ 9223372036854775807) :
    Calls Try.prog 24 #[.slice (some ⟨g0, 0, none⟩) xs.length xs.length, .int .i64 m, .string memo, .slice (some ⟨g1, 0, none⟩) st.length st.length] w (RetVC w (fCommit xs m memo st)) := by
  have HA := hid hA
  have HK := hid hok
  have HI := hid hi
  have HS := hid hS
  have HKS := hid hks
  clear hA hok hi hS hks
  cases c1 : histB xs
  · have HF := hid (show fCommit xs m memo st = ([], 1) by unfold fCommit; rw [if_pos (by rw [c1]; rfl)])
    go_enter Try.func24, Try.ntmps24
    go_wp2_with (go_at_call 83; refine (l27Ok_ok _ _ xs _ HA.out.at HK.out hn HI.out).mono ?_; rintro e w1 ⟨rfl, hb⟩; have B1 := hid hb; clear hb)
    go_ret2
    exact RetVC.nil HF.out B1.out
  cases c2 : memoB memo
  · have HF := hid (show fCommit xs m memo st = ([], 1) by unfold fCommit; rw [if_pos (by rw [c1, c2]; rfl)])
    go_enter Try.func24, Try.ntmps24
    go_wp2_with (first | (go_at_call 83; refine (l27Ok_ok _ _ xs _ HA.out.at HK.out hn HI.out).mono ?_; rintro e w1 ⟨rfl, hb⟩; have B1 := hid hb; clear hb) | (go_at_call 84; refine (l27Memo_ok memo _ hme).mono ?_; rintro e w' ⟨rfl, rfl⟩))
    go_ret2
    exact RetVC.nil HF.out B1.out
  cases c3 : stateB st
  · have HF := hid (show fCommit xs m memo st = ([], 1) by unfold fCommit; rw [if_pos (by rw [c1, c2, c3]; rfl)])
    go_enter Try.func24, Try.ntmps24
    go_wp2_with (first | (go_at_call 62; refine (l27State_ok _ _ st _ (HS.out.below B1.out) HKS.out hns).mono ?_; rintro e w3 ⟨rfl, hb⟩; have B3 := hid (below_trans B1.out hb); clear hb) | (go_at_call 83; refine (l27Ok_ok _ _ xs _ HA.out.at HK.out hn HI.out).mono ?_; rintro e w1 ⟨rfl, hb⟩; have B1 := hid hb; clear hb) | (go_at_call 84; refine (l27Memo_ok memo _ hme).mono ?_; rintro e w' ⟨rfl, rfl⟩))
    go_ret2
    exact RetVC.nil HF.out B3.out
  have HL := hid (histB_iff.1 c1).2
  have HT := hid (show ¬ ((histB xs && memoB memo && stateB st) = false) by rw [c1, c2, c3]; simp)
  by_cases h0 : m = 0
  · have HF := hid (show fCommit xs m memo st = fAdd xs m memo st by unfold fCommit; rw [if_neg HT.out, if_neg (by intro h; exact h.1 h0)])
    have d1 : (m == 0) = true := by rw [beq_iff_eq]; exact h0
    have d2 : (m != 0) = false := by rw [h0]; rfl
    clear h0
    go_enter Try.func24, Try.ntmps24
    go_wp2_with (first | (go_at_call 62; refine (l27State_ok _ _ st _ (HS.out.below B1.out) HKS.out hns).mono ?_; rintro e w3 ⟨rfl, hb⟩; have B3 := hid (below_trans B1.out hb); clear hb) | (go_at_call 83; refine (l27Ok_ok _ _ xs _ HA.out.at HK.out hn HI.out).mono ?_; rintro e w1 ⟨rfl, hb⟩; have B1 := hid hb; clear hb) | (go_at_call 84; refine (l27Memo_ok memo _ hme).mono ?_; rintro e w' ⟨rfl, rfl⟩))
    refine (l27Add_ok g0 xs m memo g1 st _ (HA.out.below B3.out) HL.out HI.out (HS.out.below B3.out) hns).mono ?_
    rintro e w9 ⟨A9, c9, rfl, hN, hb⟩
    have N9 := hid hN
    have B9 := hid (below_trans B3.out hb)
    have hsz := B3.out.size
    clear hN hb
    go_wp2_with fail
    go_ret2
    rw [HF.out]
    refine ⟨A9, c9, rfl, ?_, B9.out⟩
    rcases N9.out with h | ⟨g, ps, hA, h⟩
    · exact .inl h
    · exact .inr ⟨g, ps, hA, h.wide hsz (Nat.le_refl _)⟩
  have d1 : (m == 0) = false := by rw [beq_eq_false_iff_ne]; exact h0
  have d2 : (m != 0) = true := by rw [bne_iff_ne]; exact h0
  cases c4 : inB m 1 xs.length
  · have HF := hid (show fCommit xs m memo st = ([], 3) by unfold fCommit; rw [if_neg HT.out, if_pos ⟨h0, c4⟩])
    go_enter Try.func24, Try.ntmps24
    go_wp2_with (first | (go_at_call 62; refine (l27State_ok _ _ st _ (HS.out.below B1.out) HKS.out hns).mono ?_; rintro e w3 ⟨rfl, hb⟩; have B3 := hid (below_trans B1.out hb); clear hb) | (go_at_call 83; refine (l27Ok_ok _ _ xs _ HA.out.at HK.out hn HI.out).mono ?_; rintro e w1 ⟨rfl, hb⟩; have B1 := hid hb; clear hb) | (go_at_call 84; refine (l27Memo_ok memo _ hme).mono ?_; rintro e w' ⟨rfl, rfl⟩) | (go_at_call 85; refine (isv_spec _ _ _ _ _ HL.out hr c4).mono ?_; rintro e w' ⟨rfl, rfl⟩))
    go_ret2
    exact RetVC.nil HF.out B3.out
  · have HF := hid (show fCommit xs m memo st = fAdd xs m memo st by unfold fCommit; rw [if_neg HT.out, if_neg (by rintro ⟨_, h⟩; rw [c4] at h; cases h)])
    go_enter Try.func24, Try.ntmps24
    go_wp2_with (first | (go_at_call 62; refine (l27State_ok _ _ st _ (HS.out.below B1.out) HKS.out hns).mono ?_; rintro e w3 ⟨rfl, hb⟩; have B3 := hid (below_trans B1.out hb); clear hb) | (go_at_call 83; refine (l27Ok_ok _ _ xs _ HA.out.at HK.out hn HI.out).mono ?_; rintro e w1 ⟨rfl, hb⟩; have B1 := hid hb; clear hb) | (go_at_call 84; refine (l27Memo_ok memo _ hme).mono ?_; rintro e w' ⟨rfl, rfl⟩) | (go_at_call 85; refine (isv_spec _ _ _ _ _ HL.out hr c4).mono ?_; rintro e w' ⟨rfl, rfl⟩))
    refine (l27Add_ok g0 xs m memo g1 st _ (HA.out.below B3.out) HL.out HI.out (HS.out.below B3.out) hns).mono ?_
    rintro e w9 ⟨A9, c9, rfl, hN, hb⟩
    have N9 := hid hN
    have B9 := hid (below_trans B3.out hb)
    have hsz := B3.out.size
    clear hN hb
    go_wp2_with fail
    go_ret2
    rw [HF.out]
    refine ⟨A9, c9, rfl, ?_, B9.out⟩
    rcases N9.out with h | ⟨g, ps, hA, h⟩
    · exact .inl h
    · exact .inr ⟨g, ps, hA, h.wide hsz (Nat.le_refl _)⟩


end Go.Proofs.Ytjeklbhdngkngaa
