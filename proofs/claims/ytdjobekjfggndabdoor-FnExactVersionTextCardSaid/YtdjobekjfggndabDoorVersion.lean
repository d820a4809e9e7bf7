/- VersionText and its reference. -/
import Derived.Test.YtdjobekjfggndabDoorState
import Derived.Test.YtdjobekjfggndabDoorStateV
namespace Go.Proofs.YtdjobekjfggndabDoor
open Go.RowKit
set_option linter.unusedVariables false

noncomputable def versionB (n p : Int) (memo : ByteArray) (xs : List DSetting) : Bool := inB n 1 32 && (inB p 0 (n - 1) && (memoB memo && stateB xs))
/-- the text of a setting -/
def setT (x : DSetting) : ByteArray := ⟨#[32]⟩ ++ x.fName ++ ⟨#[61]⟩ ++ dec x.fValue
/-- the text as far as the first k settings -/
def setsT (t : ByteArray) (xs : List DSetting) (k : Nat) : ByteArray := (xs.take k).foldl (fun a x => a ++ setT x) t
theorem setsT_zero (t : ByteArray) (xs : List DSetting) : setsT t xs 0 = t := rfl
theorem setsT_succ (t : ByteArray) {xs : List DSetting} {k : Nat} (h : k < xs.length) : setsT t xs (k + 1) = setsT t xs k ++ setT xs[k] := by
  unfold setsT
  rw [List.take_succ_eq_append_getElem h, List.foldl_append]
  rfl
def versionT (n p : Int) (memo : ByteArray) (xs : List DSetting) : ByteArray :=
  let t := setsT (dec n ++ ⟨#[60]⟩ ++ dec p) xs xs.length
  if memo.size = 0 then t else t ++ (⟨#[32, 35, 32]⟩ ++ memo)

theorem setT_size {x : DSetting} (h : setB x = true) : (setT x).size ≤ 32 := by
  simp only [setB, Bool.and_eq_true] at h
  have h1 := name_size h.1
  have h2 := inB_iff.1 h.2
  have h3 : (dec x.fValue).size ≤ 20 := dec_size (by omega) (by omega)
  simp [setT]
  have e1 : (ByteArray.mk #[32]).size = 1 := rfl
  have e2 : (ByteArray.mk #[61]).size = 1 := rfl
  omega
theorem setsT_size (t : ByteArray) {xs : List DSetting} (hs : stateB xs = true) : ∀ k, k ≤ xs.length → (setsT t xs k).size ≤ t.size + 32 * k
  | 0, _ => by rw [setsT_zero]; omega
  | k + 1, h => by
    rw [setsT_succ t (by omega), ByteArray.size_append]
    have h1 := setsT_size t hs k (by omega)
    have h2 := setT_size ((stateB_iff.1 hs).1 k (by omega) (by omega)).1
    omega

theorem versionB_bd {n p : Int} {memo : ByteArray} {xs : List DSetting} (h : versionB n p memo xs = true) : (1 ≤ n ∧ n ≤ 32) ∧ (0 ≤ p ∧ p ≤ n - 1) ∧ memo.size ≤ 20 ∧ stateB xs = true := by
  simp only [versionB, Bool.and_eq_true] at h
  exact ⟨inB_iff.1 h.1, inB_iff.1 h.2.1, (memoB_iff.1 h.2.2.1).2, h.2.2.2⟩

theorem versionT_no {n p : Int} {memo : ByteArray} {xs : List DSetting} {tb : ByteArray} (h : dec n ++ ⟨#[60]⟩ ++ dec p = tb) (h0 : memo.size = 0) : setsT tb xs xs.length = orNo true (versionT n p memo xs) := by
  subst h; simp [orNo, versionT, h0]
theorem versionT_memo {n p : Int} {memo : ByteArray} {xs : List DSetting} {tb : ByteArray} (h : dec n ++ ⟨#[60]⟩ ++ dec p = tb) (h0 : 0 < memo.size) : setsT tb xs xs.length ++ (⟨#[32, 35, 32]⟩ ++ memo) = orNo true (versionT n p memo xs) := by
  subst h
  have h1 : ¬ memo.size = 0 := by omega
  simp [orNo, versionT, h1]

end Go.Proofs.YtdjobekjfggndabDoor
