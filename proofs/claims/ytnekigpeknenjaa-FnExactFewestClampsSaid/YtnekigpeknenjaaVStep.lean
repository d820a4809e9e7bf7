/- Steps of a repair: impl's test of a list. -/
import Derived.Test.YtnekigpeknenjaaStepO
import Derived.Test.YtnekigpeknenjaaNStep
import Derived.Maps.Own
import Derived.Maps.Views
import Derived.StringKeys
namespace Go.Proofs.Ytnekigpeknenjaa
open Go.RowKit
set_option linter.unusedVariables false

noncomputable def stepD (x : DStep) : Bool := stepB x.fId x.fHours x.fClamps x.fIn
def StepAt (xs : List DStep) (j : Nat) (x : DStep) : Prop := stepD x = true ∧ risesB x.fIn 0 ((j : Int) - 1) = true ∧ ∀ i (h : i < xs.length), i < j → xs[i].fId ≠ x.fId
def StepsTo (xs : List DStep) (k : Nat) : Prop := ∀ j (h : j < xs.length), j < k → StepAt xs j xs[j]
noncomputable def stepsB (xs : List DStep) : Bool := @decide (StepsTo xs xs.length ∧ xs.length ≤ 12) (Classical.propDecidable _)
theorem stepsB_iff {xs : List DStep} : stepsB xs = true ↔ StepsTo xs xs.length ∧ xs.length ≤ 12 := by simp [stepsB]
theorem stepsB_false {xs : List DStep} (h : ¬ (StepsTo xs xs.length ∧ xs.length ≤ 12)) : stepsB xs = false := by simp [stepsB, h]
theorem StepsTo.zero (xs : List DStep) : StepsTo xs 0 := fun _ _ h => absurd h (by omega)
theorem StepsTo.succ {xs : List DStep} {k : Nat} (h : StepsTo xs k) (hk : k < xs.length) (h1 : StepAt xs k xs[k]) : StepsTo xs (k + 1) := by
  intro j hj hjk
  rcases Nat.lt_or_ge j k with h3 | h3
  · exact h j hj h3
  · have e : j = k := by omega
    subst e; exact h1
theorem nostep {xs : List DStep} {k : Nat} (hk : k < xs.length) (h : ¬ StepAt xs k xs[k]) : stepsB xs = false := stepsB_false fun hr => h (hr.1 k hk hk)
theorem steps_few {xs : List DStep} (h : StepsTo xs xs.length) : decide ((xs.length : Int) ≤ 12) = stepsB xs := by
  by_cases h1 : xs.length ≤ 12
  · rw [stepsB_iff.2 ⟨h, h1⟩]; simp; omega
  · rw [stepsB_false fun ⟨_, h2⟩ => h1 h2]; simp; omega
theorem stepD_rises {x : DStep} (h : stepD x = true) : risesB x.fIn 0 11 = true := by
  simp only [stepD, stepB, Bool.and_eq_true] at h
  exact h.2.2.2
theorem rises_le {ns : List Int} {lo hi : Int} (h : RisesTo ns lo hi ns.length) : ∀ (d j : Nat) (hj : j + d < ns.length), ns[j]'(by omega) ≤ ns[j + d]
  | 0, j, hj => Int.le_refl _
  | d + 1, j, hj => by
    have h1 := rises_le h d j (by omega)
    have h2 := (h (j + (d + 1)) hj hj).2 (by omega)
    have e : ns[j + (d + 1) - 1]'(by omega) = ns[j + d]'(by omega) := by congr 1
    rw [e] at h2
    omega
theorem rises_last {ns : List Int} {i : Int} (h : risesB ns 0 11 = true) (hl : ∀ hne : 0 < ns.length, ns[ns.length - 1] ≤ i) : risesB ns 0 i = true := by
  have h1 := risesB_iff.1 h
  rw [risesB_iff]
  intro j hj hjk
  obtain ⟨a, b⟩ := h1 j hj hjk
  refine ⟨?_, b⟩
  have a1 := inB_iff.1 a
  have h2 := rises_le h1 (ns.length - 1 - j) j (by omega)
  have e : ns[j + (ns.length - 1 - j)]'(by omega) = ns[ns.length - 1]'(by omega) := by congr 1; omega
  rw [e] at h2
  have := hl (by omega)
  exact inB_iff.2 ⟨a1.1, by omega⟩
theorem rises_not {ns : List Int} {i : Int} (hne : 0 < ns.length) (hl : i < ns[ns.length - 1]) : ¬ risesB ns 0 i = true := fun h => by
  have := (rises_mem h _ (List.getElem_mem (show ns.length - 1 < ns.length by omega))).2
  omega

/-- the names that were seen -/
def seenB (xs : List DStep) (k : Nat) (s : ByteArray) : Bool := (xs.take k).any (fun x => decide (x.fId = s))
theorem seenB_yes {xs : List DStep} {k : Nat} (hk : k ≤ xs.length) {s : ByteArray} (h : seenB xs k s = true) : ∃ i, ∃ h : i < xs.length, i < k ∧ xs[i].fId = s := by
  simp only [seenB, List.any_eq_true, decide_eq_true_eq] at h
  obtain ⟨x, hx, rfl⟩ := h
  obtain ⟨j, hj, rfl⟩ := List.mem_iff_getElem.1 hx
  have hj2 : j < k := by rw [List.length_take] at hj; omega
  exact ⟨j, by omega, hj2, by rw [List.getElem_take]⟩
theorem seenB_no {xs : List DStep} {k : Nat} {s : ByteArray} (h : seenB xs k s = false) : ∀ i (h : i < xs.length), i < k → xs[i].fId ≠ s := by
  intro i hi hik he
  simp only [seenB, List.any_eq_false, decide_eq_true_eq] at h
  refine h xs[i] ?_ he
  rw [List.mem_iff_getElem]
  exact ⟨i, by rw [List.length_take]; omega, by rw [List.getElem_take]⟩
theorem seenB_next {xs : List DStep} {k : Nat} (hk : k < xs.length) (s : ByteArray) : seenB xs (k + 1) s = (seenB xs k s || decide (xs[k].fId = s)) := by
  simp only [seenB, List.take_succ_eq_append_getElem hk, List.any_append, List.any_cons, List.any_nil, Bool.or_false]
def keyL (s : ByteArray) : Lit := .string s.data.toList
theorem keyL_inj {s t : ByteArray} (h : keyL s = keyL t) : s = t := by
  injection h with h
  have := Array.toList_inj.1 h
  cases s; cases t
  simp_all
def Seen (D : DataW Unit) (xs : List DStep) (k : Nat) : Prop := Maps.IsMap D ∧ ∀ s : ByteArray, D.atKey (keyL s) (.lit (.bool false)) = .lit (.bool (seenB xs k s))
theorem Seen.zero (xs : List DStep) : Seen (.map []) xs 0 := ⟨Maps.isMap_empty, fun s => rfl⟩
theorem lawS : Maps.Keyed Try.prog 9 := Maps.string_keyed Try.underlying9
theorem key_ok {s : ByteArray} (h : s.size ≤ maxLen) : keyOf Try.prog 9 (.string s) = some (keyL s) := WideMaps.keyOf_string_mk Try.underlying9 h
theorem Seen.put {D : DataW Unit} {xs : List DStep} {k : Nat} (h : Seen D xs k) (hk : k < xs.length) (hs : xs[k].fId.size ≤ maxLen) : Seen (D.put (keyL xs[k].fId) (.lit (.bool true))) xs (k + 1) := by
  refine ⟨h.1.put _ _, fun s => ?_⟩
  by_cases e : xs[k].fId = s
  · subst e
    rw [Maps.atKey_put_same h.1 (lawS.key (key_ok hs)), seenB_next hk]
    simp
  · rw [Maps.atKey_put_other (fun he => e (keyL_inj he).symm), h.2, seenB_next hk]
    simp [e]
theorem zeroB (w : World) : (zeroValue 4).run Try.prog w = .ok (.bool false) w := by kernel_rfl
theorem elem_bool_inv {P : Program} {e : TypeId} (he : P.underlying e = some .bool) {v : Value} {b : Bool} {ps : List MemPlace} (h : plainElem (H := Unit) P e v = some (.lit (.bool b), ps)) : v = .bool b := by
  unfold plainElem at h
  rw [he] at h
  cases v <;> simp at h
  exact congrArg Value.bool h.1
theorem map_below {w w1 : World} {b n : Nat} {D : DataW Unit} (h : w.ownsMap Try.prog 9 (plainElem (H := Unit) Try.prog 4) b n D) (hb : Below w.heap.size w w1) : w1.ownsMap Try.prog 9 (plainElem (H := Unit) Try.prog 4) b n D := by
  have hlt := h.lt
  obtain ⟨es, clock, h1, F, hs, hD⟩ := h
  exact ⟨es, clock, (hb.block b hlt).trans h1, F, hs, hD⟩
theorem seen_look {w : World} {b n k : Nat} {D : DataW Unit} {xs : List DStep} (h : w.ownsMap Try.prog 9 (plainElem (H := Unit) Try.prog 4) b n D) (hs : Seen D xs k) {s : ByteArray} (hz : s.size ≤ maxLen) {r : Bool} (hr : seenB xs k s = r) :
    (Instr.lookup 188 (.map (some b)) (.string s) false).run Try.prog w = .ok (.bool r) w := by
  obtain ⟨v, ps, hrun, hv⟩ := h.lookup lawS Try.underlying188 (zeroB w) (plainElem_bool Try.underlying4 false) (key_ok hz)
  rw [hs.2 s] at hv
  rw [hrun, elem_bool_inv Try.underlying4 hv, hr]

theorem stepV_ok (x : DStep) (A : Option Addr) (c : Nat) (w : World) (hx : x.ok) (hA : RowsAt w 1 A (inStep x)) (r : Bool) (hr : stepD x = r) :
    Calls Try.prog 179 #[.agg #[.string x.fId, .int .i64 x.fHours, .int .i64 x.fClamps, .slice A x.fIn.length c]] w fun e w' => e = .returned (.bool r) ∧ Below w.heap.size w w' := by
  subst hr
  exact stepValid_ok x.fId x.fHours x.fClamps A c x.fIn w hx.1 (rows_ints hA) hx.2
theorem stepW_ok (x : DStep) (A : Option Addr) (c b o : Nat) (w : World) (hx : x.ok) (hA : RowsAt w 1 A (inStep x)) (k0 : w.cell? ⟨b, o, none⟩ = some (.string x.fId)) (k1 : w.cell? ⟨b, o + 1, none⟩ = some (.int .i64 x.fHours)) (k2 : w.cell? ⟨b, o + 2, none⟩ = some (.int .i64 x.fClamps)) (k3 : w.cell? ⟨b, o + 3, none⟩ = some (.slice A x.fIn.length c)) (r : Bool) (hr : stepD x = r) :
    Calls Try.prog 175 #[.pointer (some ⟨b, o, none⟩)] w fun e w' => e = .returned (.bool r) ∧ Below w.heap.size w w' := by
  subst hr
  exact stepOne_ok x.fId x.fHours x.fClamps A c x.fIn b o w hx.1 (rows_ints hA) hx.2 k0 k1 k2 k3

set_option maxHeartbeats 3200000 in
set_option maxRecDepth 100000 in
theorem ValidSteps_ok (A : Option Addr) (c : Nat) (xs : List DStep) (w : World) (hA : NestAt 1 hdStep inStep w A xs) (hok : ∀ x ∈ xs, x.ok) (hn : xs.length ≤ 1048576) (hi : ∀ x ∈ xs, x.fIn.length ≤ 1048576) :
    Calls Try.prog 122 #[.slice A xs.length c] w fun e w' => e = .returned (.bool (stepsB xs)) ∧ Below w.heap.size w w' := by
  have HA := hid hA
  have HK := hid hok
  have HI := hid hi
  clear hA hok hi
  have hmm := @run_makeMap Try.prog
  go_enter Try.func122, Try.ntmps122
  go_wp2_with fail
  go_loopw [9] (fun i wr => ∃ (k : Nat) (D : DataW Unit), k ≤ xs.length ∧ i = .int .i64 k ∧ StepsTo xs k ∧ Seen D xs k ∧ wr.ownsMap Try.prog 9 (plainElem (H := Unit) Try.prog 4) w.heap.size k D ∧ Below w.heap.size w wr) (fun i _ => xs.length - (intOf i).toNat)
  case atStart => exact ⟨0, _, Nat.zero_le _, rfl, StepsTo.zero _, Seen.zero _, World.ownsMap_made _ _ _ _, (Below.refl _ _).alloc (Nat.le_refl _) _⟩
  case round =>
    obtain ⟨k, D, hk, rfl, hall, hseen, hmap, hbel⟩ := hrel
    have HT := hid hall
    have HSN := hid hseen
    have HM := hid hmap
    have BW := hid hbel
    clear hall hseen hmap hbel
    by_cases hkl : k < xs.length
    · obtain ⟨b, o, A', c', rfl, hlt, hc0, hc1, hc2, hc3, hr⟩ := (HA.out.below BW.out).atStep hkl
      have hx := hid (HK.out xs[k] (List.getElem_mem hkl))
      have HX := HI.out xs[k] (List.getElem_mem hkl)
      have HR := hid hr
      have q0 : (0 : Int) ≤ (k : Int) := by omega
      have q1 : (k : Int) < xs.length := by omega
      clear hr
      rcases Nat.eq_zero_or_pos xs[k].fIn.length with hz | hz
      · have e0 : decide (0 < xs[k].fIn.length) = false := decide_eq_false (by omega)
        have HZ := hid hz
        clear hz
        have NC := hid (HasC.new wr [.string xs[k].fId, .int .i64 xs[k].fHours, .int .i64 xs[k].fClamps, .slice A' xs[k].fIn.length c'] 146)
        have nl := NC.out.1
        cases c1 : stepD xs[k]
        · have C1 := hid c1
          have HN := hid (nostep hkl (fun h => by have := h.1; rw [c1] at this; cases this))
          obtain ⟨r2, c2⟩ : ∃ r, seenB xs k xs[k].fId = r := ⟨_, rfl⟩
          have C2 := hid c2
          clear c1 c2
          go_wp2_with (go_at_call 179; refine (stepV_ok xs[k] A' c' _ hx.out (HR.out.below (below_alloc wr _)) false C1.out).mono ?_; rintro e w5 ⟨rfl, hb5⟩; have kk0 := (hb5.cell (p := ⟨wr.heap.size, 0, none⟩) nl).trans (NC.out.2 0 _ rfl); have kk3 := (hb5.cell (p := ⟨wr.heap.size, 3, none⟩) nl).trans (NC.out.2 3 _ rfl); have M5 := hid (map_below HM.out (below_chain hb5 (Below.refl _ _))); have LK := seen_look M5.out HSN.out hx.out.1 C2.out; have B5 := hid (below_trans BW.out (below_chain hb5 (Below.refl _ _))))
          go_ret
          exact ⟨ret_bool HN.out.symm, B5.out⟩
        cases c2 : seenB xs k xs[k].fId
        rotate_left
        · have C1 := hid c1
          have C2 := hid c2
          have HN := hid (nostep hkl (fun h => by obtain ⟨i, hi, hik, he⟩ := seenB_yes hk c2; exact h.2.2 i hi hik he))
          clear c1 c2
          go_wp2_with (go_at_call 179; refine (stepV_ok xs[k] A' c' _ hx.out (HR.out.below (below_alloc wr _)) true C1.out).mono ?_; rintro e w5 ⟨rfl, hb5⟩; have kk0 := (hb5.cell (p := ⟨wr.heap.size, 0, none⟩) nl).trans (NC.out.2 0 _ rfl); have kk3 := (hb5.cell (p := ⟨wr.heap.size, 3, none⟩) nl).trans (NC.out.2 3 _ rfl); have M5 := hid (map_below HM.out (below_chain hb5 (Below.refl _ _))); have LK := seen_look M5.out HSN.out hx.out.1 C2.out; have B5 := hid (below_trans BW.out (below_chain hb5 (Below.refl _ _))))
          go_ret
          exact ⟨ret_bool HN.out.symm, B5.out⟩
        · have C1 := hid c1
          have C2 := hid c2
          have HS := hid (HT.out.succ hkl ⟨c1, rises_last (stepD_rises c1) (fun h => absurd h (by have := HZ.out; omega)), seenB_no c2⟩)
          clear c1 c2
          go_wp2_with (first | (go_at_call 179; refine (stepV_ok xs[k] A' c' _ hx.out (HR.out.below (below_alloc wr _)) true C1.out).mono ?_; rintro e w5 ⟨rfl, hb5⟩; have kk0 := (hb5.cell (p := ⟨wr.heap.size, 0, none⟩) nl).trans (NC.out.2 0 _ rfl); have kk3 := (hb5.cell (p := ⟨wr.heap.size, 3, none⟩) nl).trans (NC.out.2 3 _ rfl); have M5 := hid (map_below HM.out (below_chain hb5 (Below.refl _ _))); have LK := seen_look M5.out HSN.out hx.out.1 C2.out; have B5 := hid (below_trans BW.out (below_chain hb5 (Below.refl _ _)))) | (at_mapUpdate; refine wpList_mapUpdate_own _ rfl (.tmp 41) (.tmp 43) _ 188 rfl 9 4 lawS Try.underlying188 (plainElem (H := Unit) Try.prog 4) w.heap.size k D rfl M5.out (by unfold maxLen; omega) _ _ _ rfl rfl (key_ok hx.out.1) _ [] (plainElem_bool Try.underlying4 true) ?_; intro w7 hown7 hgrow7))
          go_roundw
          case rel => exact ⟨k + 1, _, by omega, by go_num, HS.out, HSN.out.put hkl hx.out.1, hown7, B5.out.grown hgrow7 B5.out.size (fun j hj => by cases hj; exact Nat.le_refl _)⟩
          case measure => simp [intOf]; omega
      · have e0 : decide (0 < xs[k].fIn.length) = true := decide_eq_true hz
        obtain ⟨cb, co, rfl, clt, hcc⟩ := rows_ints HR.out (by intro e; rw [e] at hz; exact absurd hz (by simp))
        obtain ⟨l, hl⟩ : ∃ l, l = xs[k].fIn[xs[k].fIn.length - 1] := ⟨_, rfl⟩
        have hcl : wr.cell? ⟨cb, co + (xs[k].fIn.length - 1), none⟩ = some (.int .i64 l) := by rw [hl]; exact hcc _ _ (List.getElem?_eq_getElem (by omega))
        have e2 : IntKind.i64.wrap ((xs[k].fIn.length : Int) - 1) = (xs[k].fIn.length : Int) - 1 := IntWalk.i64_in _ (by omega)
        have e3 : (0 : Int) ≤ (xs[k].fIn.length : Int) - 1 := by omega
        have e4 : ((xs[k].fIn.length : Int) - 1).toNat = xs[k].fIn.length - 1 := by omega
        have e5 : (xs[k].fIn.length : Int) - 1 < xs[k].fIn.length := by omega
        have e6 : (1 : Int) ≤ (xs[k].fIn.length : Int) := by omega
        have HZ := hid hz
        have HLL := hid hl
        clear hcc hl
        have NC := hid (HasC.new wr [.string xs[k].fId, .int .i64 xs[k].fHours, .int .i64 xs[k].fClamps, .slice (some ⟨cb, co, none⟩) xs[k].fIn.length c'] 146)
        have nl := NC.out.1
        cases c1 : stepD xs[k]
        · have C1 := hid c1
          have HN := hid (nostep hkl (fun h => by have := h.1; rw [c1] at this; cases this))
          obtain ⟨r2, c2⟩ : ∃ r, seenB xs k xs[k].fId = r := ⟨_, rfl⟩
          have C2 := hid c2
          clear c1 c2
          go_wp2_with (go_at_call 179; refine (stepV_ok xs[k] (some ⟨cb, co, none⟩) c' _ hx.out (HR.out.below (below_alloc wr _)) false C1.out).mono ?_; rintro e w5 ⟨rfl, hb5⟩; have kk0 := (hb5.cell (p := ⟨wr.heap.size, 0, none⟩) nl).trans (NC.out.2 0 _ rfl); have kk3 := (hb5.cell (p := ⟨wr.heap.size, 3, none⟩) nl).trans (NC.out.2 3 _ rfl); have M5 := hid (map_below HM.out (below_chain hb5 (Below.refl _ _))); have LK := seen_look M5.out HSN.out hx.out.1 C2.out; have B5 := hid (below_trans BW.out (below_chain hb5 (Below.refl _ _))))
          go_ret
          exact ⟨ret_bool HN.out.symm, B5.out⟩
        cases c2 : seenB xs k xs[k].fId
        rotate_left
        · have C1 := hid c1
          have C2 := hid c2
          have HN := hid (nostep hkl (fun h => by obtain ⟨i, hi, hik, he⟩ := seenB_yes hk c2; exact h.2.2 i hi hik he))
          clear c1 c2
          go_wp2_with (go_at_call 179; refine (stepV_ok xs[k] (some ⟨cb, co, none⟩) c' _ hx.out (HR.out.below (below_alloc wr _)) true C1.out).mono ?_; rintro e w5 ⟨rfl, hb5⟩; have kk0 := (hb5.cell (p := ⟨wr.heap.size, 0, none⟩) nl).trans (NC.out.2 0 _ rfl); have kk3 := (hb5.cell (p := ⟨wr.heap.size, 3, none⟩) nl).trans (NC.out.2 3 _ rfl); have M5 := hid (map_below HM.out (below_chain hb5 (Below.refl _ _))); have LK := seen_look M5.out HSN.out hx.out.1 C2.out; have B5 := hid (below_trans BW.out (below_chain hb5 (Below.refl _ _))))
          go_ret
          exact ⟨ret_bool HN.out.symm, B5.out⟩
        · have C1 := hid c1
          have C2 := hid c2
          by_cases d : (k : Int) ≤ l
          · have HN := hid (nostep hkl (fun h => rises_not HZ.out (by have := HLL.out; omega) h.2.1))
            clear c1 c2
            go_wp2_with (go_at_call 179; refine (stepV_ok xs[k] (some ⟨cb, co, none⟩) c' _ hx.out (HR.out.below (below_alloc wr _)) true C1.out).mono ?_; rintro e w5 ⟨rfl, hb5⟩; have kk0 := (hb5.cell (p := ⟨wr.heap.size, 0, none⟩) nl).trans (NC.out.2 0 _ rfl); have kk3 := (hb5.cell (p := ⟨wr.heap.size, 3, none⟩) nl).trans (NC.out.2 3 _ rfl); have M5 := hid (map_below HM.out (below_chain hb5 (Below.refl _ _))); have LK := seen_look M5.out HSN.out hx.out.1 C2.out; have B5 := hid (below_trans BW.out (below_chain hb5 (Below.refl _ _))); have kl := (hb5.cell (p := ⟨cb, co + (xs[k].fIn.length - 1), none⟩) (Nat.lt_of_lt_of_le clt (below_alloc wr _).size)).trans (((below_alloc wr _).cell (p := ⟨cb, co + (xs[k].fIn.length - 1), none⟩) clt).trans hcl))
            go_ret
            exact ⟨ret_bool HN.out.symm, B5.out⟩
          · have HS := hid (HT.out.succ hkl ⟨c1, rises_last (stepD_rises c1) (fun h => by have := HLL.out; omega), seenB_no c2⟩)
            have d2 : l < (k : Int) := by omega
            clear c1 c2
            go_wp2_with (first | (go_at_call 179; refine (stepV_ok xs[k] (some ⟨cb, co, none⟩) c' _ hx.out (HR.out.below (below_alloc wr _)) true C1.out).mono ?_; rintro e w5 ⟨rfl, hb5⟩; have kk0 := (hb5.cell (p := ⟨wr.heap.size, 0, none⟩) nl).trans (NC.out.2 0 _ rfl); have kk3 := (hb5.cell (p := ⟨wr.heap.size, 3, none⟩) nl).trans (NC.out.2 3 _ rfl); have M5 := hid (map_below HM.out (below_chain hb5 (Below.refl _ _))); have LK := seen_look M5.out HSN.out hx.out.1 C2.out; have B5 := hid (below_trans BW.out (below_chain hb5 (Below.refl _ _))); have kl := (hb5.cell (p := ⟨cb, co + (xs[k].fIn.length - 1), none⟩) (Nat.lt_of_lt_of_le clt (below_alloc wr _).size)).trans (((below_alloc wr _).cell (p := ⟨cb, co + (xs[k].fIn.length - 1), none⟩) clt).trans hcl)) | (at_mapUpdate; refine wpList_mapUpdate_own _ rfl (.tmp 41) (.tmp 43) _ 188 rfl 9 4 lawS Try.underlying188 (plainElem (H := Unit) Try.prog 4) w.heap.size k D rfl M5.out (by unfold maxLen; omega) _ _ _ rfl rfl (key_ok hx.out.1) _ [] (plainElem_bool Try.underlying4 true) ?_; intro w7 hown7 hgrow7))
            go_roundw
            case rel => exact ⟨k + 1, _, by omega, by go_num, HS.out, HSN.out.put hkl hx.out.1, hown7, B5.out.grown hgrow7 B5.out.size (fun j hj => by cases hj; exact Nat.le_refl _)⟩
            case measure => simp [intOf]; omega
    · have hk2 : k = xs.length := by omega
      subst hk2
      have HN := hid (steps_few HT.out)
      go_wp2_with (go_at_call 164; refine (few_ok _ _ _).mono ?_; rintro e w' ⟨rfl, rfl⟩)
      go_ret
      exact ⟨ret_bool HN.out, BW.out⟩

end Go.Proofs.Ytnekigpeknenjaa
