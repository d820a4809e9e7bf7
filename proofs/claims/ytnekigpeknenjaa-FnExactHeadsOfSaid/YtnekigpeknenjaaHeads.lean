/- HeadsOf and its reference. -/
import Derived.Test.YtnekigpeknenjaaHist
import Derived.Test.YtnekigpeknenjaaRet
import Derived.Test.YtnekigpeknenjaaHas
namespace Go.Proofs.Ytnekigpeknenjaa
open Go.RowKit
set_option linter.unusedVariables false

def parB (xs : List DVersion) (num : Int) : Bool := xs.any (fun x => x.fParent == num)
theorem parB_at {xs : List DVersion} {num : Int} {k : Nat} (hk : k < xs.length) (h : xs[k].fParent = num) : parB xs num = true := by
  rw [parB, List.any_eq_true]
  exact ⟨xs[k], List.getElem_mem hk, by rw [beq_iff_eq]; exact h⟩
theorem parB_no {xs : List DVersion} {num : Int} (h : ∀ j (h : j < xs.length), xs[j].fParent ≠ num) : parB xs num = false := by
  rw [parB, List.any_eq_false]
  intro x hx
  obtain ⟨j, hj, rfl⟩ := List.mem_iff_getElem.1 hx
  rw [beq_iff_eq]
  exact h j hj
def headsTo (xs : List DVersion) (k : Nat) : List Int := ((xs.take k).filter (fun v => !parB xs v.fNumber)).map DVersion.fNumber
theorem headsTo_len (xs : List DVersion) (k : Nat) : (headsTo xs k).length ≤ k := by
  have h1 := List.length_filter_le (fun v => !parB xs v.fNumber) (xs.take k)
  have h2 := List.length_take_le k xs
  rw [headsTo, List.length_map]
  omega
theorem headsTo_yes {xs : List DVersion} {k : Nat} (hk : k < xs.length) (h : parB xs xs[k].fNumber = false) : headsTo xs (k + 1) = headsTo xs k ++ [xs[k].fNumber] := by
  unfold headsTo
  rw [List.take_succ_eq_append_getElem hk, List.filter_append, List.map_append]
  simp [h]
theorem headsTo_no {xs : List DVersion} {k : Nat} (hk : k < xs.length) (h : parB xs xs[k].fNumber = true) : headsTo xs (k + 1) = headsTo xs k := by
  unfold headsTo
  rw [List.take_succ_eq_append_getElem hk, List.filter_append, List.map_append]
  simp [h]
noncomputable def fHeads (xs : List DVersion) : List Int × Int := if histB xs = false then ([], 1) else (headsTo xs xs.length, 0)
theorem fHeads_small (xs : List DVersion) : (fHeads xs).1.length ≤ 32 := by
  unfold fHeads
  split
  · simp
  · rename_i h1
    have h := histB_iff.1 (by simpa using h1)
    have := headsTo_len xs xs.length
    have := h.2
    simp only
    omega

set_option maxHeartbeats 800000 in
set_option maxRecDepth 100000 in
theorem headsClo_ok (x : DVersion) (A : Option Addr) (c b o : Nat) (num : Int) (w : World) (hlt : b < w.heap.size) (hcell : w.cell? ⟨b, o, none⟩ = some (.int .i64 num)) (r : Bool) (hr : (x.fParent == num) = r) :
    Calls Try.prog 133 #[.agg #[.int .i64 x.fNumber, .int .i64 x.fParent, .string x.fMemo, .slice A x.fIn.length c], .pointer (some ⟨b, o, none⟩)] w fun e w' => e = .returned (.bool r) ∧ Below w.heap.size w w' := by
  have g1 : (w.alloc (.cells #[.int .i64 x.fNumber, .int .i64 x.fParent, .string x.fMemo, .slice A x.fIn.length c] 123)).cell? ⟨b, o, none⟩ = some (.int .i64 num) := ((below_alloc w _).cell (p := ⟨b, o, none⟩) hlt).trans hcell
  have HR := hid hr
  clear hr hcell
  go_enter Try.func133, Try.ntmps133
  go_wp2_with fail
  go_ret
  exact ⟨ret_bool (by first | exact HR.out | (have h := HR.out; simpa using h)), below_alloc _ _⟩

set_option maxHeartbeats 800000 in
set_option maxRecDepth 100000 in
theorem IndexFunc_ok (B : Option Addr) (cB : Nat) (xs : List DVersion) (b o : Nat) (num : Int) (w : World) (hA : NestAt 2 hdVersion inVersion w B xs) (hn : xs.length ≤ 1048576) (hlt : b < w.heap.size) (hcell : w.cell? ⟨b, o, none⟩ = some (.int .i64 num)) :
    Calls Try.prog 183 #[.slice B xs.length cB, .func (.func 133) #[] #[.pointer (some ⟨b, o, none⟩)]] w fun e w' => (∃ r : Int, e = .returned (.int .i64 r) ∧ -1 ≤ r ∧ r ≤ 1048576 ∧ (0 ≤ r ↔ parB xs num = true)) ∧ Below w.heap.size w w' := by
  have HA := hid hA
  have HC := hid hcell
  clear hA hcell
  go_enter Try.func183, Try.ntmps183
  go_wp2_with fail
  go_loopw [8] (fun i wr => ∃ k : Nat, k ≤ xs.length ∧ i = .int .i64 k ∧ (∀ j (h : j < xs.length), j < k → xs[j].fParent ≠ num) ∧ Below w.heap.size w wr) (fun i _ => xs.length - (intOf i).toNat)
  case atStart => exact ⟨0, Nat.zero_le _, rfl, fun _ _ h => absurd h (by omega), Below.refl _ _⟩
  case round =>
    obtain ⟨k, hk, rfl, hall, hbel⟩ := hrel
    have HL := hid hall
    have HB := hid hbel
    clear hall hbel
    by_cases hkl : k < xs.length
    · obtain ⟨b2, o2, A', c', rfl, hlt2, hc0, hc1, hc2, hc3, hr⟩ := (HA.out.below HB.out).atVersion hkl
      have q0 : (0 : Int) ≤ (k : Int) := by omega
      have q1 : (k : Int) < xs.length := by omega
      have hb2 : b < wr.heap.size := Nat.lt_of_lt_of_le hlt HB.out.size
      have KC := hid ((HB.out.cell (p := ⟨b, o, none⟩) hlt).trans HC.out)
      clear hr
      cases d : (xs[k].fParent == num)
      · have HS := hid (show ∀ j (h : j < xs.length), j < k + 1 → xs[j].fParent ≠ num from fun j h hj => by
          rcases Nat.lt_or_ge j k with h3 | h3
          · exact HL.out j h h3
          · have e : j = k := by omega
            subst e; exact (beq_eq_false_iff_ne.1 d))
        have D := hid d
        clear d
        go_wp2_with (go_at_call 133; refine (headsClo_ok xs[k] A' c' b o num _ hb2 KC.out false D.out).mono ?_; rintro e w5 ⟨rfl, hb5⟩)
        go_roundw
        case rel => exact ⟨k + 1, by omega, by go_num, HS.out, below_trans HB.out hb5⟩
        case measure => simp [intOf]; omega
      · have HP := hid (parB_at hkl (beq_iff_eq.1 d))
        have D := hid d
        clear d
        go_wp2_with (go_at_call 133; refine (headsClo_ok xs[k] A' c' b o num _ hb2 KC.out true D.out).mono ?_; rintro e w5 ⟨rfl, hb5⟩)
        go_ret
        exact ⟨⟨_, rfl, by omega, by omega, ⟨fun _ => HP.out, fun _ => by omega⟩⟩, below_trans HB.out hb5⟩
    · have HP := hid (parB_no fun j h => HL.out j h (by omega))
      go_wp2_with fail
      go_ret
      exact ⟨⟨_, rfl, by omega, by omega, ⟨fun h => absurd h (by omega), fun h => by rw [HP.out] at h; cases h⟩⟩, HB.out⟩

set_option maxHeartbeats 800000 in
theorem ContainsFunc_ok (B : Option Addr) (cB : Nat) (xs : List DVersion) (b o : Nat) (num : Int) (w : World) (hA : NestAt 2 hdVersion inVersion w B xs) (hn : xs.length ≤ 1048576) (hlt : b < w.heap.size) (hcell : w.cell? ⟨b, o, none⟩ = some (.int .i64 num)) (z : Bool) (hz : parB xs num = z) :
    Calls Try.prog 132 #[.slice B xs.length cB, .func (.func 133) #[] #[.pointer (some ⟨b, o, none⟩)]] w fun e w' => e = .returned (.bool z) ∧ Below w.heap.size w w' := by
  have HZ := hid hz
  clear hz
  go_enter Try.func132, Try.ntmps132
  go_wp2_with (go_at_call 183; refine (IndexFunc_ok B cB xs b o num _ hA hn hlt hcell).mono ?_; rintro e w' ⟨⟨r, rfl, r0, r1, r2⟩, hb⟩; have R2 := hid r2; clear r2)
  go_ret
  exact ⟨ret_bool (by have h := R2.out; rw [HZ.out] at h; rw [Bool.eq_iff_iff, ← h]; simp only [decide_eq_true_eq]), hb⟩

set_option maxHeartbeats 1600000 in
set_option maxRecDepth 100000 in
theorem implHeads_ok (A : Option Addr) (c : Nat) (xs : List DVersion) (w : World) (hA : NestAt 2 hdVersion inVersion w A xs) (hok : ∀ x ∈ xs, x.ok) (hn : xs.length ≤ 1048576) (hi : ∀ x ∈ xs, x.fIn.length ≤ 1048576) :
    Calls Try.prog 49 #[.slice A xs.length c] w (RetIC w (fHeads xs)) := by
  have HA := hid hA
  have HK := hid hok
  have HI := hid hi
  clear hA hok hi
  have hmf : ∀ (fn : Fn) (first cap : Array Value) (w : World), (Instr.makeFunc fn first cap).run Try.prog w = .ok (.func fn first cap) w := fun _ _ _ _ => rfl
  cases c1 : histB xs
  · have HF := hid (show fHeads xs = ([], 1) by unfold fHeads; rw [if_pos c1])
    go_enter Try.func49, Try.ntmps49
    go_wp2_with fail
    refine (ValidHistory_ok A c xs _ HA.out HK.out hn HI.out).mono ?_
    rintro e w1 ⟨rfl, hb⟩
    go_wp2_with fail
    go_ret2
    exact RetIC.nil HF.out hb
  have HF := hid (show fHeads xs = (headsTo xs xs.length, 0) by unfold fHeads; rw [if_neg (by rw [c1]; exact fun h => by cases h)])
  have hl32 := (histB_iff.1 c1).2
  go_enter Try.func49, Try.ntmps49
  go_wp2_with fail
  refine (ValidHistory_ok A c xs _ HA.out HK.out hn HI.out).mono ?_
  rintro e w1 ⟨rfl, hb1⟩
  go_wp2_with fail
  go_loopw [4, 13] (fun v i wr => ∃ k : Nat, k ≤ xs.length ∧ i = .int .i64 k ∧ wr.ownsRow w1.heap.size 2 1 v (headsTo xs k).length ((headsTo xs k).map (Value.int .i64)) ∧ Below w1.heap.size w1 wr) (fun _ i _ => xs.length - (intOf i).toNat)
  case atStart => exact ⟨0, Nat.zero_le _, rfl, World.ownsRow_lit _ _ 0 (Nat.le_refl _) (by unfold maxLen; omega) rfl, below_alloc _ _⟩
  case round =>
    obtain ⟨k, hk, rfl, hown, hbel⟩ := hrel
    have HO := hid hown
    have HB := hid hbel
    clear hown hbel
    have hdl := headsTo_len xs k
    by_cases hkl : k < xs.length
    · obtain ⟨b, o, A', c', rfl, hlt, hc0, hc1, hc2, hc3, hr⟩ := ((HA.out.below hb1).below HB.out).atVersion hkl
      have q0 : (0 : Int) ≤ (k : Int) := by omega
      have q1 : (k : Int) < xs.length := by omega
      have NC := hid (HasC.new wr [.int .i64 xs[k].fNumber, .int .i64 xs[k].fParent, .string xs[k].fMemo, .slice A' xs[k].fIn.length c'] 123)
      have HN := hid (((HA.out.below hb1).below HB.out).below (below_alloc wr (.cells #[.int .i64 xs[k].fNumber, .int .i64 xs[k].fParent, .string xs[k].fMemo, .slice A' xs[k].fIn.length c'] 123)))
      have OW := hid (own_below HO.out (below_alloc wr (.cells #[.int .i64 xs[k].fNumber, .int .i64 xs[k].fParent, .string xs[k].fMemo, .slice A' xs[k].fIn.length c'] 123)))
      clear hr
      cases d : parB xs xs[k].fNumber
      · have HS := hid (headsTo_yes hkl d)
        have D := hid d
        clear d
        go_wp2_with (first
          | (go_at_call 132; refine (ContainsFunc_ok _ _ xs wr.heap.size 0 xs[k].fNumber _ HN.out hn NC.out.1 (NC.out.2 0 _ rfl) false D.out).mono ?_; rintro e w5 ⟨rfl, hb5⟩; have kk := (hb5.cell (p := ⟨wr.heap.size, 0, none⟩) NC.out.1).trans (NC.out.2 0 _ rfl); have O5 := hid (own_below OW.out hb5); have B5 := hid (below_trans HB.out (below_chain hb5 (Below.refl _ _))))
          | (at_builtin; refine wpList_app (w0 := w1) rfl (.tmp 21) (.tmp 24) 23 rfl w1.heap.size 2 (.int .i64 0) 1 8 Try.underlying23 infoI rfl (by decide) _ _ _ rfl O5.out #[.int .i64 xs[k].fNumber] 1 1 rfl rfl (by simp [Value.oneCell']) (by omega) B5.out.size B5.out ?_; intro v1 w6 hown1 hbel1 hz1 _))
        go_roundw
        case rel => exact ⟨k + 1, by omega, by go_num, by rw [HS.out, List.length_append, List.map_append]; exact hown1, hbel1⟩
        case measure => simp [intOf]; omega
      · have HS := hid (headsTo_no hkl d)
        have D := hid d
        clear d
        go_wp2_with (go_at_call 132; refine (ContainsFunc_ok _ _ xs wr.heap.size 0 xs[k].fNumber _ HN.out hn NC.out.1 (NC.out.2 0 _ rfl) true D.out).mono ?_; rintro e w5 ⟨rfl, hb5⟩; have O5 := hid (own_below OW.out hb5); have B5 := hid (below_trans HB.out (below_chain hb5 (Below.refl _ _))))
        go_roundw
        case rel => exact ⟨k + 1, by omega, by go_num, by rw [HS.out]; exact O5.out, B5.out⟩
        case measure => simp [intOf]; omega
    · have hk2 : k = xs.length := by omega
      subst hk2
      go_wp2_with fail
      go_ret2
      exact RetIC.own HF.out (own_mono HO.out hb1.size) (below_trans hb1 HB.out)

end Go.Proofs.Ytnekigpeknenjaa
