/- CommitState and its reference. -/
import Derived.Test.YtmfadjdpbobfhaaDoorCommit
import Derived.Test.YtmfadjdpbobfhaaDoorRVersion
namespace Go.Proofs.YtmfadjdpbobfhaaDoor
open Go.RowKit
set_option linter.unusedVariables false

noncomputable def fCommit (xs : List DVersion) (m : Int) (memo : ByteArray) (st : List DSetting) : List DVersion × Int :=
  if (histB xs && memoB memo && stateB st) = false then ([], 1) else if m ≠ 0 ∧ inB m 1 xs.length = false then ([], 3) else fAdd xs m memo st
theorem fAdd_small {xs : List DVersion} {m : Int} {memo : ByteArray} {st : List DSetting} (h : xs.length ≤ 32) : (fAdd xs m memo st).1.length ≤ 33 := by
  unfold fAdd
  split
  · simp
  · rw [List.length_append]; simp; omega
theorem fCommit_small (xs : List DVersion) (m : Int) (memo : ByteArray) (st : List DSetting) : (fCommit xs m memo st).1.length ≤ 33 := by
  unfold fCommit
  split
  · simp
  · rename_i h
    split
    · simp
    · refine fAdd_small ?_
      have h1 : histB xs = true := by
        cases e : histB xs
        · rw [e] at h; simp at h
        · rfl
      exact (histB_iff.1 h1).2
theorem fCommit_in {xs : List DVersion} {m : Int} {memo : ByteArray} {st : List DSetting} (hi : ∀ x ∈ xs, x.fIn.length ≤ 1048576) (hs : st.length ≤ 1048576) : ∀ x ∈ (fCommit xs m memo st).1, x.fIn.length ≤ 1048576 := by
  unfold fCommit
  split
  · intro x hx; cases hx
  · split
    · intro x hx; cases hx
    · unfold fAdd
      split
      · intro x hx; cases hx
      · intro x hx
        rcases List.mem_append.1 hx with hx | hx
        · exact hi x hx
        · have : x = newV xs m memo st := by simpa using hx
          rw [this]
          exact hs
theorem endV_pos : ∀ (z : Int) (vs : List DVersion), 0 < z → 0 < endV z vs
  | _, [], h => h
  | z, x :: r, h => endV_pos (nextV z x) r (by unfold nextV; omega)

theorem isv_impl (A : Option Addr) (c n : Nat) (m : Int) (w : World) (hn : n ≤ 32) (hr : -9223372036854775808 ≤ m ∧ m ≤ 9223372036854775807) {v : Bool} (h : inB m 1 n = v) : Calls Tryd.prog 57 #[.slice A n c, .int .i64 m] w fun e w' => e = .returned (.bool v) ∧ w = w' := by
  subst h
  exact isVersion_ok A c n m w (by omega) hr.1 hr.2

theorem isv_spec (A : Option Addr) (c n : Nat) (m : Int) (w : World) (hn : n ≤ 32) (hr : -9223372036854775808 ≤ m ∧ m ≤ 9223372036854775807) {v : Bool} (h : inB m 1 n = v) : Calls Tryd.prog 51 #[.slice A n c, .int .i64 m] w fun e w' => e = .returned (.bool v) ∧ w = w' := by
  subst h
  exact l27Number_ok A c n m w


end Go.Proofs.YtmfadjdpbobfhaaDoor
