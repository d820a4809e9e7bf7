/- Orders of coats; copies of a list of numbers. -/
import Derived.Test.YtnekigpeknenjaaColour
import Derived.Test.YtnekigpeknenjaaHist
import Derived.Test.YtnekigpeknenjaaRowOps
namespace Go.Proofs.Ytnekigpeknenjaa
open Go.RowKit
set_option linter.unusedVariables false

def ordB (n : Nat) (ns : List Int) : Bool := ns.all (fun i => inB i 0 ((n : Int) - 1)) && decide (ns.length ≤ 10)
theorem ordB_iff {n : Nat} {ns : List Int} : ordB n ns = true ↔ (∀ i ∈ ns, 0 ≤ i ∧ i ≤ (n : Int) - 1) ∧ ns.length ≤ 10 := by
  simp only [ordB, Bool.and_eq_true, List.all_eq_true, decide_eq_true_eq, inB_iff]
theorem noord_at {n : Nat} {ns : List Int} {k : Nat} (hk : k < ns.length) (h : inB ns[k] 0 ((n : Int) - 1) = false) : ordB n ns = false := by
  cases e : ordB n ns
  · rfl
  · have := inB_iff.2 ((ordB_iff.1 e).1 _ (List.getElem_mem hk))
    simp [h] at this
theorem ord_end {n : Nat} {ns : List Int} (h : AllInTo ns 0 ((n : Int) - 1) ns.length) : decide ((ns.length : Int) ≤ 10) = ordB n ns := by
  rw [Bool.eq_iff_iff, ordB_iff, decide_eq_true_eq]
  constructor
  · intro h3
    refine ⟨fun n hn => ?_, by omega⟩
    obtain ⟨j, hj, rfl⟩ := List.getElem_of_mem hn
    exact inB_iff.1 (h j hj hj)
  · rintro ⟨_, h3⟩; omega
theorem at_eq {m : Int} {n : Nat} {r : Bool} (w : World) (h : inB m 0 ((n : Int) - 1) = r) : Calls Try.prog 165 #[.int .i64 m, .int .i64 n] w fun e w' => e = .returned (.bool r) ∧ w = w' := by
  have e : (decide (0 ≤ m) && decide (m < (n : Int))) = r := by
    rw [← h, Bool.eq_iff_iff, inB_iff, Bool.and_eq_true, decide_eq_true_eq, decide_eq_true_eq]
    omega
  exact e ▸ at_ok m n w
theorem in_eq {m l h : Int} {r : Bool} (w : World) (e : inB m l h = r) : Calls Try.prog 117 #[.int .i64 m, .int .i64 l, .int .i64 h] w fun e w' => e = .returned (.bool r) ∧ w = w' := e ▸ l00In_ok m l h w


set_option maxHeartbeats 800000 in
set_option maxRecDepth 100000 in
theorem isOrder_ok (X : Option Addr) (cX n : Nat) (A : Option Addr) (c : Nat) (ns : List Int) (w : World) (hA : IntsAt w A ns) (hn : ns.length ≤ 1048576) (hx : n ≤ 1048576) :
    Calls Try.prog 87 #[.slice X n cX, .slice A ns.length c] w fun e w' => e = .returned (.bool (ordB n ns)) ∧ w = w' := by
  have HA := hid hA
  clear hA
  go_enter Try.func87, Try.ntmps87
  go_wp2_with fail
  go_loop [9] (fun i => ∃ k : Nat, k ≤ ns.length ∧ i = .int .i64 k ∧ AllInTo ns 0 ((n : Int) - 1) k) (fun i => ns.length - (intOf i).toNat)
  case atStart => exact ⟨0, Nat.zero_le _, rfl, AllInTo.zero _ _ _⟩
  case round =>
    obtain ⟨k, hk, rfl, hall⟩ := hrel
    have HR := hid hall
    clear hall
    by_cases hkl : k < ns.length
    · obtain ⟨b, o, rfl, hlt, hc⟩ := HA.out (by intro e; rw [e] at hkl; exact absurd hkl (by simp))
      have hcell : w.cell? ⟨b, o + k, none⟩ = some (.int .i64 ns[k]) := hc k _ (List.getElem?_eq_getElem hkl)
      have q0 : (0 : Int) ≤ (k : Int) := by omega
      have q1 : (k : Int) < ns.length := by omega
      clear hc HA
      cases c1 : inB ns[k] 0 ((n : Int) - 1)
      · have HN := hid (noord_at hkl c1)
        go_wp2_with (go_at_call 165; refine (at_eq _ c1).mono ?_; rintro e w' ⟨rfl, rfl⟩)
        go_ret
        exact ⟨ret_bool HN.out.symm, rfl⟩
      · have HS := hid (HR.out.succ hkl c1)
        go_wp2_with (go_at_call 165; refine (at_eq _ c1).mono ?_; rintro e w' ⟨rfl, rfl⟩)
        go_round
        case rel => exact ⟨k + 1, by omega, by go_num, HS.out⟩
        case measure => simp [intOf]; omega
    · have hk2 : k = ns.length := by omega
      subst hk2
      have HN := hid (ord_end HR.out)
      go_wp2_with (go_at_call 164; refine (few_ok _ _ _).mono ?_; rintro e w' ⟨rfl, rfl⟩)
      go_ret
      exact ⟨ret_bool HN.out, rfl⟩


set_option maxHeartbeats 800000 in
set_option maxRecDepth 100000 in
theorem l13Order_ok (X : Option Addr) (cX n : Nat) (A : Option Addr) (c : Nat) (ns : List Int) (w : World) (hA : IntsAt w A ns) (hn : ns.length ≤ 1048576) (hx : n ≤ 1048576) :
    Calls Try.prog 81 #[.slice X n cX, .slice A ns.length c] w fun e w' => e = .returned (.bool (ordB n ns)) ∧ w = w' := by
  have HA := hid hA
  clear hA
  go_enter Try.func81, Try.ntmps81
  go_wp2_with fail
  go_loop [5] (fun i => ∃ k : Nat, k ≤ ns.length ∧ i = .int .i64 k ∧ AllInTo ns 0 ((n : Int) - 1) k) (fun i => ns.length - (intOf i).toNat)
  case atStart => exact ⟨0, Nat.zero_le _, rfl, AllInTo.zero _ _ _⟩
  case round =>
    obtain ⟨k, hk, rfl, hall⟩ := hrel
    have HR := hid hall
    clear hall
    by_cases hkl : k < ns.length
    · obtain ⟨b, o, rfl, hlt, hc⟩ := HA.out (by intro e; rw [e] at hkl; exact absurd hkl (by simp))
      have hcell : w.cell? ⟨b, o + k, none⟩ = some (.int .i64 ns[k]) := hc k _ (List.getElem?_eq_getElem hkl)
      have q0 : (0 : Int) ≤ (k : Int) := by omega
      have q1 : (k : Int) < ns.length := by omega
      clear hc HA
      cases c1 : inB ns[k] 0 ((n : Int) - 1)
      · have HN := hid (noord_at hkl c1)
        go_wp2_with (go_at_call 117; refine (in_eq _ c1).mono ?_; rintro e w' ⟨rfl, rfl⟩)
        go_ret
        exact ⟨ret_bool HN.out.symm, rfl⟩
      · have HS := hid (HR.out.succ hkl c1)
        go_wp2_with (go_at_call 117; refine (in_eq _ c1).mono ?_; rintro e w' ⟨rfl, rfl⟩)
        go_round
        case rel => exact ⟨k + 1, by omega, by go_num, HS.out⟩
        case measure => simp [intOf]; omega
    · have hk2 : k = ns.length := by omega
      subst hk2
      have HN := hid (ord_end HR.out)
      go_wp2_with fail
      go_ret
      exact ⟨ret_bool HN.out, rfl⟩


theorem int_len (ns : List Int) : (ns.map (Value.int .i64)).length = ns.length * 1 := by simp
theorem ints_src {w : World} {A : Option Addr} {ns : List Int} (h : IntsAt w A ns) : SrcAt w A (ns.map (Value.int .i64)) := fun hne => by
  obtain ⟨b, o, rfl, hlt, hc⟩ := h (by intro e; rw [e] at hne; exact hne rfl)
  refine ⟨_, rfl, fun j u hu => ?_⟩
  have hadd : (⟨b, o, none⟩ : Addr).add j = ⟨b, o + j, none⟩ := by unfold Addr.add; split <;> simp_all
  rw [hadd]
  rw [List.getElem?_map] at hu
  cases hj : ns[j]? with
  | none => rw [hj] at hu; cases hu
  | some n => rw [hj] at hu; injection hu with hu; subst hu; exact hc j n hj

set_option maxHeartbeats 800000 in
set_option maxRecDepth 100000 in
theorem cloneInt_ok (A : Option Addr) (c : Nat) (ns : List Int) (w : World) (hA : IntsAt w A ns) (hn : ns.length ≤ 1048576) (hnone : A = none → c = 0) :
    Calls Try.prog 88 #[.slice A ns.length c] w (RetI w ns) := by
  obtain ⟨i0, hi, hz0, hz1, hz2⟩ := info_parts infoI
  have HA := hid hA
  have HN := hid hnone
  clear hA hnone
  go_enter Try.func88, Try.ntmps88
  go_wp2_with (first
    | (at_make; refine wpList_make_own _ rfl _ _ _ rfl w.heap.size 2 i0 (.int .i64 0) 1 Try.underlying23 hi hz0 hz1 .i64 .i64 _ ns.length rfl rfl rfl (by rw [hz2]; omega) (by unfold maxLen; omega) (Nat.le_refl _) ?_; intro w1 hown1 hg1; have HB := hid ((Below.refl _ _).grown hg1 (Nat.le_refl _) (fun k hk => by cases hk)); have HS := hid (ints_src (HA.out.below HB.out)); have HO1 := hid hown1; clear hg1 hown1)
    | (at_builtin; refine wpList_append_fits_any _ rfl _ _ 23 rfl w.heap.size 2 i0 1 Try.underlying23 hi hz1 _ 0 ns.length [] rfl HO1.out A ns.length c (ns.map (Value.int .i64)) rfl (int_len ns) (fun h => fits_none HS.out HN.out (int_len ns) (by omega) h) (fun ad had j u hu => fits_some HS.out had hu) (by simp [Value.oneCell']) (by omega) ?_; intro w2 hown2 hg2; simp only [Nat.zero_add, List.nil_append] at hown2))
  have HO := hid hown2
  have HB2 := hid (HB.out.grown hg2 HB.out.size (fun k hk => by injection hk with hk; subst hk; exact Nat.le_refl _))
  clear hown2 hg2
  (try go_wp2_with fail)
  go_ret
  exact RetI.own (by simpa using HO.out) HB2.out

set_option maxHeartbeats 800000 in
set_option maxRecDepth 100000 in
theorem l00Own_ok (A : Option Addr) (c : Nat) (ns : List Int) (w : World) (hA : IntsAt w A ns) (hn : ns.length ≤ 1048576) (hnone : A = none → c = 0) :
    Calls Try.prog 82 #[.slice A ns.length c] w (RetI w ns) := by
  have HA := hid hA
  have HN := hid hnone
  clear hA hnone
  go_enter Try.func82, Try.ntmps82
  go_wp2_with (at_builtin; refine wpList_app_src (w0 := w) rfl (.tmp 3) (.tmp 4) 23 rfl w.heap.size 2 (.int .i64 0) 1 8 Try.underlying23 infoI rfl (by decide) _ 0 [] rfl (World.ownsRow_lit _ _ 0 (Nat.le_refl _) (by unfold maxLen; omega) rfl) A ns.length c (ns.map (Value.int .i64)) rfl (by simp) HN.out (ints_src (HA.out.below (below_alloc _ _))) (by simp [Value.oneCell']) (by omega) (by simp) (below_alloc _ _) ?_; intro v4 w4 hown4 hbel4 hz4; rw [Nat.zero_add, List.nil_append] at hown4)
  go_ret
  exact RetI.own hown4 hbel4

end Go.Proofs.Ytnekigpeknenjaa
