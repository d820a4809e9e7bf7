/- Histories: impl's and spec's tests; a version's ancestors. -/
import Derived.Test.YtmfadjdpbobfhaaDoorNVersion
import Derived.Test.YtmfadjdpbobfhaaDoorState
import Derived.Test.YtmfadjdpbobfhaaDoorStateV
import Derived.Test.YtmfadjdpbobfhaaDoorMarks
namespace Go.Proofs.YtmfadjdpbobfhaaDoor
open Go.RowKit
set_option linter.unusedVariables false

def verB (i : Nat) (v : DVersion) : Prop := v.fNumber = (i : Int) + 1 ∧ inB v.fParent 0 i = true ∧ memoB v.fMemo = true ∧ stateB v.fIn = true
def HistTo (xs : List DVersion) (k : Nat) : Prop := ∀ j (h : j < xs.length), j < k → verB j xs[j]
noncomputable def histB (xs : List DVersion) : Bool := @decide (HistTo xs xs.length ∧ xs.length ≤ 32) (Classical.propDecidable _)
theorem histB_iff {xs : List DVersion} : histB xs = true ↔ HistTo xs xs.length ∧ xs.length ≤ 32 := by simp [histB]
theorem histB_false {xs : List DVersion} (h : ¬ (HistTo xs xs.length ∧ xs.length ≤ 32)) : histB xs = false := by simp [histB, h]
theorem HistTo.zero (xs : List DVersion) : HistTo xs 0 := fun _ _ h => absurd h (by omega)
theorem HistTo.succ {xs : List DVersion} {k : Nat} (h : HistTo xs k) (hk : k < xs.length) (h1 : verB k xs[k]) : HistTo xs (k + 1) := by
  intro j hj hjk
  rcases Nat.lt_or_ge j k with h3 | h3
  · exact h j hj h3
  · have e : j = k := by omega
    subst e; exact h1
theorem nohist {xs : List DVersion} {k : Nat} (hk : k < xs.length) (h : ¬ verB k xs[k]) : histB xs = false := histB_false fun hr => h (hr.1 k hk hk)
theorem hist_few {xs : List DVersion} (h : HistTo xs xs.length) : decide ((xs.length : Int) ≤ 32) = histB xs := by
  by_cases h1 : xs.length ≤ 32
  · rw [histB_iff.2 ⟨h, h1⟩]; simp; omega
  · rw [histB_false fun ⟨_, h2⟩ => h1 h2]; simp; omega

set_option maxHeartbeats 1600000 in
set_option maxRecDepth 100000 in
theorem ValidHistory_ok (A : Option Addr) (c : Nat) (xs : List DVersion) (w : World) (hA : NestAt 2 hdVersion inVersion w A xs) (hok : ∀ x ∈ xs, x.ok) (hn : xs.length ≤ 1048576) (hi : ∀ x ∈ xs, x.fIn.length ≤ 1048576) :
    Calls Tryd.prog 56 #[.slice A xs.length c] w fun e w' => e = .returned (.bool (histB xs)) ∧ Below w.heap.size w w' := by
  have HA := hid hA
  have HK := hid hok
  have HI := hid hi
  clear hA hok hi
  go_enter Tryd.func56, Tryd.ntmps56
  go_wp2_with fail
  go_loopw [7] (fun i wr => ∃ k : Nat, k ≤ xs.length ∧ i = .int .i64 k ∧ HistTo xs k ∧ Below w.heap.size w wr) (fun i _ => xs.length - (intOf i).toNat)
  case atStart => exact ⟨0, Nat.zero_le _, rfl, HistTo.zero _, Below.refl _ _⟩
  case round =>
    obtain ⟨k, hk, rfl, hall, hbel⟩ := hrel
    have HT := hid hall
    clear hall
    by_cases hkl : k < xs.length
    · obtain ⟨b, o, A', c', rfl, hlt, hc0, hc1, hc2, hc3, hr⟩ := (HA.out.below hbel).atVersion hkl
      have hx2 := hid (HK.out xs[k] (List.getElem_mem hkl))
      have HX := hid (HI.out xs[k] (List.getElem_mem hkl))
      have HR := hid hr
      have BW := hid hbel
      have q0 : (0 : Int) ≤ (k : Int) := by omega
      have q1 : (k : Int) < xs.length := by omega
      clear hr hbel
      by_cases d0 : xs[k].fNumber = (k : Int) + 1
      · have d0' : (xs[k].fNumber != (k : Int) + 1) = false := by rw [bne_eq_false_iff_eq]; exact d0
        have D0 := hid d0
        clear d0
        cases d1 : inB xs[k].fParent 0 k
        · have HN := hid (nohist hkl (fun h => by have := h.2.1; simp [d1] at this))
          go_wp2_with (first | (go_at_call 88; refine (within_ok _ _ _ _).mono ?_; rintro e w' ⟨rfl, rfl⟩) | (go_at_call 100; refine (isMemo_ok _ _ hx2.out.1).mono ?_; rintro e w' ⟨rfl, rfl⟩) | (go_at_call 101; refine (ValidState_ok _ _ xs[k].fIn _ (HR.out.below (below_alloc _ _)) hx2.out.2.2 HX.out).mono ?_; rintro e w2 ⟨rfl, hb2⟩; have B2 := hid (below_trans BW.out (below_chain hb2 (Below.refl _ _))); clear hb2))
          go_ret
          exact ⟨ret_bool HN.out.symm, BW.out.alloc BW.out.size _⟩
        cases d2 : memoB xs[k].fMemo
        · have HN := hid (nohist hkl (fun h => by have := h.2.2.1; simp [d2] at this))
          go_wp2_with (first | (go_at_call 88; refine (within_ok _ _ _ _).mono ?_; rintro e w' ⟨rfl, rfl⟩) | (go_at_call 100; refine (isMemo_ok _ _ hx2.out.1).mono ?_; rintro e w' ⟨rfl, rfl⟩) | (go_at_call 101; refine (ValidState_ok _ _ xs[k].fIn _ (HR.out.below (below_alloc _ _)) hx2.out.2.2 HX.out).mono ?_; rintro e w2 ⟨rfl, hb2⟩; have B2 := hid (below_trans BW.out (below_chain hb2 (Below.refl _ _))); clear hb2))
          go_ret
          exact ⟨ret_bool HN.out.symm, BW.out.alloc BW.out.size _⟩
        cases d3 : stateB xs[k].fIn
        · have HN := hid (nohist hkl (fun h => by have := h.2.2.2; simp [d3] at this))
          go_wp2_with (first | (go_at_call 88; refine (within_ok _ _ _ _).mono ?_; rintro e w' ⟨rfl, rfl⟩) | (go_at_call 100; refine (isMemo_ok _ _ hx2.out.1).mono ?_; rintro e w' ⟨rfl, rfl⟩) | (go_at_call 101; refine (ValidState_ok _ _ xs[k].fIn _ (HR.out.below (below_alloc _ _)) hx2.out.2.2 HX.out).mono ?_; rintro e w2 ⟨rfl, hb2⟩; have B2 := hid (below_trans BW.out (below_chain hb2 (Below.refl _ _))); clear hb2))
          go_ret
          exact ⟨ret_bool HN.out.symm, B2.out⟩
        · have HS := hid (HT.out.succ hkl ⟨D0.out, d1, d2, d3⟩)
          go_wp2_with (first | (go_at_call 88; refine (within_ok _ _ _ _).mono ?_; rintro e w' ⟨rfl, rfl⟩) | (go_at_call 100; refine (isMemo_ok _ _ hx2.out.1).mono ?_; rintro e w' ⟨rfl, rfl⟩) | (go_at_call 101; refine (ValidState_ok _ _ xs[k].fIn _ (HR.out.below (below_alloc _ _)) hx2.out.2.2 HX.out).mono ?_; rintro e w2 ⟨rfl, hb2⟩; have B2 := hid (below_trans BW.out (below_chain hb2 (Below.refl _ _))); clear hb2))
          go_roundw
          case rel => exact ⟨k + 1, by omega, by go_num, HS.out, B2.out⟩
          case measure => simp [intOf]; omega
      · have d0' : (xs[k].fNumber != (k : Int) + 1) = true := by rw [bne_iff_ne]; exact d0
        have HN := hid (nohist hkl (fun h => d0 h.1))
        clear d0
        go_wp2_with (first | (go_at_call 88; refine (within_ok _ _ _ _).mono ?_; rintro e w' ⟨rfl, rfl⟩) | (go_at_call 100; refine (isMemo_ok _ _ hx2.out.1).mono ?_; rintro e w' ⟨rfl, rfl⟩) | (go_at_call 101; refine (ValidState_ok _ _ xs[k].fIn _ (HR.out.below (below_alloc _ _)) hx2.out.2.2 HX.out).mono ?_; rintro e w2 ⟨rfl, hb2⟩; have B2 := hid (below_trans BW.out (below_chain hb2 (Below.refl _ _))); clear hb2))
        go_ret
        exact ⟨ret_bool HN.out.symm, BW.out.alloc BW.out.size _⟩
    · have hk2 : k = xs.length := by omega
      subst hk2
      have HN := hid (hist_few HT.out)
      go_wp2_with (go_at_call 102; refine (few_ok _ _ _).mono ?_; rintro e w' ⟨rfl, rfl⟩)
      go_ret
      exact ⟨ret_bool HN.out, hbel⟩

set_option maxHeartbeats 1600000 in
set_option maxRecDepth 100000 in
theorem l27Ok_ok (A : Option Addr) (c : Nat) (xs : List DVersion) (w : World) (hA : NestAt 2 hdVersion inVersion w A xs) (hok : ∀ x ∈ xs, x.ok) (hn : xs.length ≤ 1048576) (hi : ∀ x ∈ xs, x.fIn.length ≤ 1048576) :
    Calls Tryd.prog 50 #[.slice A xs.length c] w fun e w' => e = .returned (.bool (histB xs)) ∧ Below w.heap.size w w' := by
  have HA := hid hA
  have HK := hid hok
  have HI := hid hi
  clear hA hok hi
  go_enter Tryd.func50, Tryd.ntmps50
  go_wp2_with fail
  go_loopw [3] (fun i wr => ∃ k : Nat, k ≤ xs.length ∧ i = .int .i64 k ∧ HistTo xs k ∧ Below w.heap.size w wr) (fun i _ => xs.length - (intOf i).toNat)
  case atStart => exact ⟨0, Nat.zero_le _, rfl, HistTo.zero _, Below.refl _ _⟩
  case round =>
    obtain ⟨k, hk, rfl, hall, hbel⟩ := hrel
    have HT := hid hall
    clear hall
    by_cases hkl : k < xs.length
    · obtain ⟨b, o, A', c', rfl, hlt, hc0, hc1, hc2, hc3, hr⟩ := (HA.out.below hbel).atVersion hkl
      have hx2 := hid (HK.out xs[k] (List.getElem_mem hkl))
      have HX := hid (HI.out xs[k] (List.getElem_mem hkl))
      have HR := hid hr
      have BW := hid hbel
      have q0 : (0 : Int) ≤ (k : Int) := by omega
      have q1 : (k : Int) < xs.length := by omega
      clear hr hbel
      by_cases d0 : xs[k].fNumber = (k : Int) + 1
      · have d0' : (xs[k].fNumber != (k : Int) + 1) = false := by rw [bne_eq_false_iff_eq]; exact d0
        have D0 := hid d0
        clear d0
        cases d1 : inB xs[k].fParent 0 k
        · have HN := hid (nohist hkl (fun h => by have := h.2.1; simp [d1] at this))
          go_wp2_with (first | (go_at_call 95; refine (l00In_ok _ _ _ _).mono ?_; rintro e w' ⟨rfl, rfl⟩) | (go_at_call 96; refine (l27Memo_ok _ _ hx2.out.1).mono ?_; rintro e w' ⟨rfl, rfl⟩) | (go_at_call 97; refine (l27State_ok _ _ xs[k].fIn _ (HR.out.below (below_alloc _ _)) hx2.out.2.2 HX.out).mono ?_; rintro e w2 ⟨rfl, hb2⟩; have B2 := hid (below_trans BW.out (below_chain hb2 (Below.refl _ _))); clear hb2))
          go_ret
          exact ⟨ret_bool HN.out.symm, BW.out.alloc BW.out.size _⟩
        cases d2 : memoB xs[k].fMemo
        · have HN := hid (nohist hkl (fun h => by have := h.2.2.1; simp [d2] at this))
          go_wp2_with (first | (go_at_call 95; refine (l00In_ok _ _ _ _).mono ?_; rintro e w' ⟨rfl, rfl⟩) | (go_at_call 96; refine (l27Memo_ok _ _ hx2.out.1).mono ?_; rintro e w' ⟨rfl, rfl⟩) | (go_at_call 97; refine (l27State_ok _ _ xs[k].fIn _ (HR.out.below (below_alloc _ _)) hx2.out.2.2 HX.out).mono ?_; rintro e w2 ⟨rfl, hb2⟩; have B2 := hid (below_trans BW.out (below_chain hb2 (Below.refl _ _))); clear hb2))
          go_ret
          exact ⟨ret_bool HN.out.symm, BW.out.alloc BW.out.size _⟩
        cases d3 : stateB xs[k].fIn
        · have HN := hid (nohist hkl (fun h => by have := h.2.2.2; simp [d3] at this))
          go_wp2_with (first | (go_at_call 95; refine (l00In_ok _ _ _ _).mono ?_; rintro e w' ⟨rfl, rfl⟩) | (go_at_call 96; refine (l27Memo_ok _ _ hx2.out.1).mono ?_; rintro e w' ⟨rfl, rfl⟩) | (go_at_call 97; refine (l27State_ok _ _ xs[k].fIn _ (HR.out.below (below_alloc _ _)) hx2.out.2.2 HX.out).mono ?_; rintro e w2 ⟨rfl, hb2⟩; have B2 := hid (below_trans BW.out (below_chain hb2 (Below.refl _ _))); clear hb2))
          go_ret
          exact ⟨ret_bool HN.out.symm, B2.out⟩
        · have HS := hid (HT.out.succ hkl ⟨D0.out, d1, d2, d3⟩)
          go_wp2_with (first | (go_at_call 95; refine (l00In_ok _ _ _ _).mono ?_; rintro e w' ⟨rfl, rfl⟩) | (go_at_call 96; refine (l27Memo_ok _ _ hx2.out.1).mono ?_; rintro e w' ⟨rfl, rfl⟩) | (go_at_call 97; refine (l27State_ok _ _ xs[k].fIn _ (HR.out.below (below_alloc _ _)) hx2.out.2.2 HX.out).mono ?_; rintro e w2 ⟨rfl, hb2⟩; have B2 := hid (below_trans BW.out (below_chain hb2 (Below.refl _ _))); clear hb2))
          go_roundw
          case rel => exact ⟨k + 1, by omega, by go_num, HS.out, B2.out⟩
          case measure => simp [intOf]; omega
      · have d0' : (xs[k].fNumber != (k : Int) + 1) = true := by rw [bne_iff_ne]; exact d0
        have HN := hid (nohist hkl (fun h => d0 h.1))
        clear d0
        go_wp2_with (first | (go_at_call 95; refine (l00In_ok _ _ _ _).mono ?_; rintro e w' ⟨rfl, rfl⟩) | (go_at_call 96; refine (l27Memo_ok _ _ hx2.out.1).mono ?_; rintro e w' ⟨rfl, rfl⟩) | (go_at_call 97; refine (l27State_ok _ _ xs[k].fIn _ (HR.out.below (below_alloc _ _)) hx2.out.2.2 HX.out).mono ?_; rintro e w2 ⟨rfl, hb2⟩; have B2 := hid (below_trans BW.out (below_chain hb2 (Below.refl _ _))); clear hb2))
        go_ret
        exact ⟨ret_bool HN.out.symm, BW.out.alloc BW.out.size _⟩
    · have hk2 : k = xs.length := by omega
      subst hk2
      have HN := hid (hist_few HT.out)
      go_wp2_with fail
      go_ret
      exact ⟨ret_bool HN.out, hbel⟩


theorem at_ok (m n : Int) (w : World) : Calls Tryd.prog 103 #[.int .i64 m, .int .i64 n] w fun e w' => e = .returned (.bool (decide (0 ≤ m) && decide (m < n))) ∧ w = w' := by
  by_cases h : 0 ≤ m
  · go_enter Tryd.func103, Tryd.ntmps103
    go_wp2_with fail
    go_ret
    exact ⟨ret_bool (by simp [h]), rfl⟩
  · go_enter Tryd.func103, Tryd.ntmps103
    go_wp2_with fail
    go_ret
    exact ⟨ret_bool (by simp; omega), rfl⟩
theorem isVersion_ok (A : Option Addr) (c n : Nat) (m : Int) (w : World) (hn : n ≤ 9223372036854775807) (h0 : -9223372036854775808 ≤ m) (h1 : m ≤ 9223372036854775807) :
    Calls Tryd.prog 57 #[.slice A n c, .int .i64 m] w fun e w' => e = .returned (.bool (inB m 1 n)) ∧ w = w' := by
  by_cases hm : m = -9223372036854775808
  · subst hm
    have HE := hid (show inB (-9223372036854775808) 1 n = false by simp [inB])
    have HW := hid (show wrap64 (-9223372036854775809) = 9223372036854775807 by unfold wrap64; omega)
    go_enter Tryd.func57, Tryd.ntmps57
    go_wp2_with (go_at_call 103; refine (at_ok _ _ _).mono ?_; rintro e w' ⟨rfl, rfl⟩)
    go_ret
    exact ⟨ret_bool (by rw [HE.out, HW.out]; simp; omega), rfl⟩
  · have h2 : -9223372036854775807 ≤ m := by omega
    go_enter Tryd.func57, Tryd.ntmps57
    go_wp2_with (go_at_call 103; refine (at_ok _ _ _).mono ?_; rintro e w' ⟨rfl, rfl⟩)
    go_ret
    exact ⟨ret_bool (by rw [Bool.eq_iff_iff]; simp [inB]; omega), rfl⟩
theorem l27Number_ok (A : Option Addr) (c n : Nat) (m : Int) (w : World) :
    Calls Tryd.prog 51 #[.slice A n c, .int .i64 m] w fun e w' => e = .returned (.bool (inB m 1 n)) ∧ w = w' := by
  go_enter Tryd.func51, Tryd.ntmps51
  go_wp2_with (go_at_call 95; refine (l00In_ok _ _ _ _).mono ?_; rintro e w' ⟨rfl, rfl⟩)
  go_ret
  exact ⟨rfl, rfl⟩

/-- the parent of version p (counted from 1); 0 if there is none -/
def parN (xs : List DVersion) (p : Nat) : Nat := match xs[p - 1]? with | some v => v.fParent.toNat | none => 0
/-- p and what it comes from -/
def restF (xs : List DVersion) : Nat → Nat → List Int
  | 0, _ => []
  | f + 1, p => if p = 0 then [] else (p : Int) :: restF xs f (parN xs p)
theorem parN_at {xs : List DVersion} {p : Nat} (hp : p - 1 < xs.length) : parN xs p = (xs[p - 1]).fParent.toNat := by unfold parN; rw [List.getElem?_eq_getElem hp]
theorem parN_lt {xs : List DVersion} (h : HistTo xs xs.length) {p : Nat} (h0 : 0 < p) (hp : p ≤ xs.length) : parN xs p < p ∧ (xs[p - 1]'(by omega)).fParent = (parN xs p : Int) := by
  have hv := (h (p - 1) (by omega) (by omega)).2.1
  rw [inB_iff] at hv
  rw [parN_at (by omega)]
  omega
theorem restF_more {xs : List DVersion} (h : HistTo xs xs.length) : ∀ (f g p : Nat), p ≤ f → p ≤ g → p ≤ xs.length → restF xs f p = restF xs g p
  | 0, g, p, h1, _, _ => by
    have : p = 0 := by omega
    subst this
    cases g <;> rfl
  | f + 1, 0, p, _, h2, _ => by
    have : p = 0 := by omega
    subst this
    rfl
  | f + 1, g + 1, p, h1, h2, h3 => by
    unfold restF
    split
    · rfl
    · have hl := (parN_lt h (by omega) h3).1
      rw [restF_more h f g (parN xs p) (by omega) (by omega) (by omega)]
def restN (xs : List DVersion) (p : Nat) : List Int := restF xs p p
theorem restN_zero (xs : List DVersion) : restN xs 0 = [] := rfl
theorem restN_step {xs : List DVersion} (h : HistTo xs xs.length) {p : Nat} (h0 : 0 < p) (hp : p ≤ xs.length) : restN xs p = (p : Int) :: restN xs (parN xs p) := by
  obtain ⟨q, rfl⟩ : ∃ q, p = q + 1 := ⟨p - 1, by omega⟩
  have hl := (parN_lt h h0 hp).1
  unfold restN
  rw [restF, if_neg (by omega), restF_more h q (parN xs (q + 1)) _ (by omega) (Nat.le_refl _) (by omega)]
theorem restF_len (xs : List DVersion) : ∀ (f p : Nat), (restF xs f p).length ≤ f
  | 0, _ => by simp [restF]
  | f + 1, p => by
    unfold restF
    split
    · simp
    · have := restF_len xs f (parN xs p)
      simp
      omega
theorem restN_len (xs : List DVersion) (p : Nat) : (restN xs p).length ≤ p := restF_len xs p p
theorem restF_pos (xs : List DVersion) : ∀ (f p : Nat), ∀ z ∈ restF xs f p, 0 ≤ z
  | 0, _, z, h => by simp [restF] at h
  | f + 1, p, z, h => by
    unfold restF at h
    split at h
    · simp at h
    · rcases List.mem_cons.1 h with rfl | h
      · omega
      · exact restF_pos xs f _ z h
/-- what version p comes from -/
def ancN (xs : List DVersion) (p : Nat) : List Int := restN xs (parN xs p)

/-- a list of numbers in new memory -/
def RetI (w : World) (ns : List Int) (e : Ending) (w' : World) : Prop :=
  ∃ A c, e = .returned (.slice A ns.length c) ∧ w'.ownsRow w.heap.size 2 1 (.slice A ns.length c) ns.length (ns.map (Value.int .i64)) ∧ (A = none → c = 0) ∧ Below w.heap.size w w'
theorem RetI.own {w w' : World} {v : Value} {l : List Int} (ho : w'.ownsRow w.heap.size 2 1 v l.length (l.map (Value.int .i64))) (hb : Below w.heap.size w w') : RetI w l (.returned v) w' := by
  obtain ⟨h1, h2⟩ := ho
  rcases h2 with ⟨rfl, h0⟩ | ⟨g, cap, cur, rfl, r⟩
  · have : l = [] := by simpa using h0
    subst this
    exact ⟨none, 0, rfl, World.ownsRow_nil _ _ _ _, fun _ => rfl, hb⟩
  · exact ⟨_, _, rfl, ⟨h1, .inr ⟨g, cap, cur, rfl, r⟩⟩, fun h => (by cases h), hb⟩



end Go.Proofs.YtmfadjdpbobfhaaDoor
