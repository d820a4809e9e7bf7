/- MostTrusted, the reference: clashes, agreement, the order of ways; nodes on both sides. -/
import Derived.Test.YtdbjbkdcmhekfaaTruI
namespace Go.Proofs.Ytdbjbkdcmhekfaa
open Go.RowKit
set_option linter.unusedVariables false

theorem quiet_mor {P : Program} {f : FuncId} {args : Array Value} {w : World} {n : Nat} {v : Value}
    (h : Calls P f args (w.drewN n) fun e w' => e = .returned v ∧ ∃ m, w' = (w.drewN n).drewN m) : Calls P f args (w.drewN n) fun e w'' => e = .returned v ∧ ∃ m, w'' = w.drewN m :=
  h.mono fun _ _ ⟨he, m, hm⟩ => ⟨he, n + m, by rw [hm]; simp [World.drewN, Nat.add_assoc]⟩
set_option maxHeartbeats 1600000 in
set_option maxRecDepth 100000 in
theorem l20Clash_ok (a b : DPaper) (p1 o1 p2 o2 : Nat) (w : World) (ha1 : w.cell? ⟨p1, o1 + 1, none⟩ = some (.string a.fMaker)) (ha2 : w.cell? ⟨p1, o1 + 2, none⟩ = some (.int .i64 a.fEarly)) (ha3 : w.cell? ⟨p1, o1 + 3, none⟩ = some (.int .i64 a.fLate)) (hb1 : w.cell? ⟨p2, o2 + 1, none⟩ = some (.string b.fMaker)) (hb2 : w.cell? ⟨p2, o2 + 2, none⟩ = some (.int .i64 b.fEarly)) (hb3 : w.cell? ⟨p2, o2 + 3, none⟩ = some (.int .i64 b.fLate)) :
    Calls Try.prog 170 #[.pointer (some ⟨p1, o1, none⟩), .pointer (some ⟨p2, o2, none⟩)] w fun e w' => e = .returned (.bool (clashB a b)) ∧ ∃ n, w' = w.drewN n := by
  cases d1 : (a.fMaker.toList == b.fMaker.toList)
  · have HR := hid (clashB_yes d1)
    go_enter Try.func170, Try.ntmps170
    go_wp2_with fail
    go_quiet (fail)
    go_wp2_with fail
    go_ret
    exact ⟨ret_bool HR.out.symm, _, rfl⟩
  by_cases d2 : a.fLate < b.fEarly
  · have HR := hid (show clashB a b = true by unfold clashB; rw [d1]; simp [d2])
    go_enter Try.func170, Try.ntmps170
    go_wp2_with fail
    go_quiet (fail)
    go_wp2_with fail
    go_ret
    exact ⟨ret_bool HR.out.symm, _, rfl⟩
  by_cases d3 : b.fLate < a.fEarly
  · have HR := hid (show clashB a b = true by unfold clashB; rw [d1]; simp [d3])
    go_enter Try.func170, Try.ntmps170
    go_wp2_with fail
    go_quiet (fail)
    go_wp2_with fail
    go_ret
    exact ⟨ret_bool HR.out.symm, _, rfl⟩
  · have HR := hid (show clashB a b = false by unfold clashB; rw [d1]; simp; omega)
    have e2 : decide (a.fLate < b.fEarly) = false := decide_eq_false d2
    have e3 : decide (b.fLate < a.fEarly) = false := decide_eq_false d3
    go_enter Try.func170, Try.ntmps170
    go_wp2_with fail
    go_quiet (fail)
    go_wp2_with fail
    go_ret
    exact ⟨ret_bool HR.out.symm, _, rfl⟩

/-- each of the first i agrees with those ahead of it -/
def AgrTo (xs : List DPaper) (t : List Nat) (i : Nat) : Prop := ∀ p (hp : p < t.length), p < i → ∀ q (hq : q < t.length), q < p → clI xs t[p] t[q] = false
theorem AgrTo.succ {xs : List DPaper} {t : List Nat} {i : Nat} (h : AgrTo xs t i) (hi : i < t.length) (h2 : ∀ q (hq : q < t.length), q < i → clI xs t[i] t[q] = false) : AgrTo xs t (i + 1) := fun p hp hpi q hq hqp => by
  rcases Nat.lt_or_ge p i with h3 | h3
  · exact h p hp h3 q hq hqp
  · have : p = i := by omega
    subst this
    exact h2 q hq hqp

set_option maxHeartbeats 1600000 in
set_option maxRecDepth 100000 in
theorem l20Agrees_ok (xs : List DPaper) (A : Option Addr) (c : Nat) (t : List Nat) (At : Option Addr) (ct : Nat) (w : World) (hA : RowsAt w 5 A (xs.map DPaper.cells)) (hn : xs.length ≤ 1048576) (hT : IntsAt w At (t.map Int.ofNat)) (ht : ∀ i ∈ t, i < xs.length) (htl : t.length ≤ 1048576) :
    Calls Try.prog 133 #[.slice A xs.length c, .slice At t.length ct] w fun e w' => (∃ r, e = .returned (.bool r) ∧ (r = true ↔ AgrTo xs t t.length)) ∧ Below w.heap.size w w' := by
  have HA := hid hA
  have HT := hid hT
  have HI := hid ht
  clear hA hT ht
  go_enter Try.func133, Try.ntmps133
  go_wp2_with fail
  go_loopw [5] (fun i wr => ∃ k : Nat, k ≤ t.length ∧ i = .int .i64 (k : Int) ∧ AgrTo xs t k ∧ Below w.heap.size w wr) (fun i _ => t.length - (intOf i).toNat)
  case atStart => exact ⟨0, Nat.zero_le _, rfl, fun _ _ h => absurd h (Nat.not_lt_zero _), Below.refl _ _⟩
  case round =>
    obtain ⟨k, hk, rfl, hag, hbel⟩ := hrel
    have HG := hid hag
    have HB := hid hbel
    clear hag hbel
    by_cases hkl : k < t.length
    · go_wp2_with fail
      go_loopw [6] (fun i wr => ∃ j : Nat, j ≤ k ∧ i = .int .i64 (j : Int) ∧ (∀ q (hq : q < t.length), q < j → clI xs t[k] t[q] = false) ∧ Below w.heap.size w wr) (fun i _ => k - (intOf i).toNat)
      case atStart => exact ⟨0, Nat.zero_le _, rfl, fun _ _ h => absurd h (Nat.not_lt_zero _), HB.out⟩
      case round =>
        obtain ⟨j, hj, rfl, hcl, hbel⟩ := hrel
        have HC := hid hcl
        have HB := hid hbel
        clear hcl hbel
        by_cases hjk : j < k
        · have hjl : j < t.length := by omega
          have hx1 := HI.out t[k] (List.getElem_mem hkl)
          have hx2 := HI.out t[j] (List.getElem_mem hjl)
          obtain ⟨tb, to, rfl, htb, htc⟩ := (HT.out.below HB.out) (by intro e; rw [List.map_eq_nil_iff] at e; rw [e] at hkl; exact absurd hkl (by simp))
          obtain ⟨b, o, rfl, hlt, hc⟩ := (HA.out.below HB.out) (by intro e; rw [List.map_eq_nil_iff] at e; rw [e] at hx1; exact absurd hx1 (by simp))
          have t1 : wr.cell? ⟨tb, to + k, none⟩ = some (.int .i64 (t[k] : Int)) := htc k _ (by rw [List.getElem?_map, List.getElem?_eq_getElem hkl]; rfl)
          have t2 : wr.cell? ⟨tb, to + j, none⟩ = some (.int .i64 (t[j] : Int)) := htc j _ (by rw [List.getElem?_map, List.getElem?_eq_getElem hjl]; rfl)
          have c1 := hc t[k] xs[t[k]].cells (by rw [List.getElem?_map, List.getElem?_eq_getElem hx1]; rfl)
          have c2 := hc t[j] xs[t[j]].cells (by rw [List.getElem?_map, List.getElem?_eq_getElem hx2]; rfl)
          have a1 : wr.cell? ⟨b, o + t[k] * 5 + 1, none⟩ = some (.string xs[t[k]].fMaker) := c1 1 _ rfl
          have a2 : wr.cell? ⟨b, o + t[k] * 5 + 2, none⟩ = some (.int .i64 xs[t[k]].fEarly) := c1 2 _ rfl
          have a3 : wr.cell? ⟨b, o + t[k] * 5 + 3, none⟩ = some (.int .i64 xs[t[k]].fLate) := c1 3 _ rfl
          have b1 : wr.cell? ⟨b, o + t[j] * 5 + 1, none⟩ = some (.string xs[t[j]].fMaker) := c2 1 _ rfl
          have b2 : wr.cell? ⟨b, o + t[j] * 5 + 2, none⟩ = some (.int .i64 xs[t[j]].fEarly) := c2 2 _ rfl
          have b3 : wr.cell? ⟨b, o + t[j] * 5 + 3, none⟩ = some (.int .i64 xs[t[j]].fLate) := c2 3 _ rfl
          have HSx := hid (show ∀ w', Below wr.heap.size wr w' → (True ∧ Below wr.heap.size wr w') ∧ (w'.cell? ⟨tb, to + k, none⟩ = some (.int .i64 (t[k] : Int)) ∧ w'.cell? ⟨tb, to + j, none⟩ = some (.int .i64 (t[j] : Int))) ∧ (w'.cell? ⟨b, o + t[k] * 5 + 1, none⟩ = some (.string xs[t[k]].fMaker) ∧ w'.cell? ⟨b, o + t[k] * 5 + 2, none⟩ = some (.int .i64 xs[t[k]].fEarly) ∧ w'.cell? ⟨b, o + t[k] * 5 + 3, none⟩ = some (.int .i64 xs[t[k]].fLate)) ∧ (w'.cell? ⟨b, o + t[j] * 5 + 1, none⟩ = some (.string xs[t[j]].fMaker) ∧ w'.cell? ⟨b, o + t[j] * 5 + 2, none⟩ = some (.int .i64 xs[t[j]].fEarly) ∧ w'.cell? ⟨b, o + t[j] * 5 + 3, none⟩ = some (.int .i64 xs[t[j]].fLate)) from fun w' hb => ⟨⟨trivial, hb⟩, ⟨(hb.cell (p := ⟨tb, _, none⟩) htb).trans t1, (hb.cell (p := ⟨tb, _, none⟩) htb).trans t2⟩, ⟨(hb.cell (p := ⟨b, _, none⟩) hlt).trans a1, (hb.cell (p := ⟨b, _, none⟩) hlt).trans a2, (hb.cell (p := ⟨b, _, none⟩) hlt).trans a3⟩, ⟨(hb.cell (p := ⟨b, _, none⟩) hlt).trans b1, (hb.cell (p := ⟨b, _, none⟩) hlt).trans b2, (hb.cell (p := ⟨b, _, none⟩) hlt).trans b3⟩⟩)
          have q0 : (0 : Int) ≤ (k : Int) := by omega
          have q1 : (k : Int) < t.length := by omega
          have q2 : (0 : Int) ≤ (j : Int) := by omega
          have q3 : (j : Int) < t.length := by omega
          have q4 : (0 : Int) ≤ (t[k] : Int) := by omega
          have q5 : (t[k] : Int) < xs.length := by omega
          have q6 : (0 : Int) ≤ (t[j] : Int) := by omega
          have q7 : (t[j] : Int) < xs.length := by omega
          have q8 : (j : Int) < (k : Int) := by omega
          cases hr : clashB xs[t[k]] xs[t[j]]
          · have HW := hid (show ∀ n, Calls Try.prog 170 #[.pointer (some ⟨b, o + t[k] * 5, none⟩), .pointer (some ⟨b, o + t[j] * 5, none⟩)] (wr.drewN n) fun e w' => e = .returned (.bool false) ∧ ∃ m, w' = (wr.drewN n).drewN m from fun n => by rw [← hr]; exact l20Clash_ok xs[t[k]] xs[t[j]] b _ b _ (wr.drewN n) a1 a2 a3 b1 b2 b3)
            have HQ := hid ((clI_at hx1 hx2).trans hr)
            clear htc hc c1 c2 hr
            go_wp2_with fail
            go_quiet (first | (go_at_call 170; exact quiet_mor (HW.out _)))
            go_wp2_with fail
            go_roundw
            case rel => exact ⟨j + 1, by omega, by go_num, fun q hq hqj => by rcases Nat.lt_or_ge q j with h3 | h3; exact HC.out q hq h3; have h4 : q = j := (by omega); subst h4; exact HQ.out, below_drewN' HB.out _⟩
            case measure => simp [intOf]; omega
          · have HW := hid (show ∀ n, Calls Try.prog 170 #[.pointer (some ⟨b, o + t[k] * 5, none⟩), .pointer (some ⟨b, o + t[j] * 5, none⟩)] (wr.drewN n) fun e w' => e = .returned (.bool true) ∧ ∃ m, w' = (wr.drewN n).drewN m from fun n => by rw [← hr]; exact l20Clash_ok xs[t[k]] xs[t[j]] b _ b _ (wr.drewN n) a1 a2 a3 b1 b2 b3)
            have HQ := hid ((clI_at hx1 hx2).trans hr)
            clear htc hc c1 c2 hr
            go_wp2_with fail
            go_quiet (first | (go_at_call 170; exact quiet_mor (HW.out _)))
            go_wp2_with fail
            go_ret
            exact ⟨⟨false, rfl, iff_of_false (by decide) (fun h => by have h2 := h k hkl hkl j hjl hjk; rw [HQ.out] at h2; cases h2)⟩, below_drewN' HB.out _⟩
        · have q8 : ¬ (j : Int) < (k : Int) := by omega
          have HG2 := hid (HG.out.succ hkl (fun q hq hqk => HC.out q hq (by omega)))
          go_wp2_with fail
          go_roundw
          case rel => exact ⟨k + 1, by omega, by go_num, HG2.out, HB.out⟩
          case measure => simp [intOf]; omega
    · go_wp2_with fail
      go_ret
      exact ⟨⟨true, rfl, iff_of_true rfl (by have h9 : k = t.length := (by omega); rw [← h9]; exact HG.out)⟩, HB.out⟩
end Go.Proofs.Ytdbjbkdcmhekfaa
