/- A list of numbers copied into new memory. -/
import Derived.Test.YtdbjbkdcmhekfaaRowOps
import Derived.Test.YtdbjbkdcmhekfaaInts
namespace Go.Proofs.Ytdbjbkdcmhekfaa
open Go.RowKit
set_option linter.unusedVariables false

/-- a list of numbers in new memory -/
def RetI (w : World) (ns : List Int) (e : Ending) (w' : World) : Prop :=
  ∃ A c, e = .returned (.slice A ns.length c) ∧ w'.ownsRow w.heap.size 2 1 (.slice A ns.length c) ns.length (ns.map (Value.int .i64)) ∧ (A = none → c = 0) ∧ Below w.heap.size w w'
theorem RetI.own {w w' : World} {v : Value} {l : List Int} (ho : w'.ownsRow w.heap.size 2 1 v l.length (l.map (Value.int .i64))) (hb : Below w.heap.size w w') : RetI w l (.returned v) w' := by
  obtain ⟨h1, h2⟩ := ho
  rcases h2 with ⟨rfl, h0⟩ | ⟨g, cap, cur, rfl, r⟩
  · have : l = [] := by simpa using h0
    subst this
    exact ⟨none, 0, rfl, World.ownsRow_nil _ _ _ _, fun _ => rfl, hb⟩
  · exact ⟨_, _, rfl, ⟨h1, .inr ⟨g, cap, cur, rfl, r⟩⟩, fun h => (by cases h), hb⟩

theorem int_len (ns : List Int) : (ns.map (Value.int .i64)).length = ns.length * 1 := by simp
theorem ints_src {w : World} {A : Option Addr} {ns : List Int} (h : IntsAt w A ns) : SrcAt w A (ns.map (Value.int .i64)) := fun hne => by
  obtain ⟨b, o, rfl, hlt, hc⟩ := h (by intro e; rw [e] at hne; exact hne rfl)
  refine ⟨_, rfl, fun j u hu => ?_⟩
  have hadd : (⟨b, o, none⟩ : Addr).add j = ⟨b, o + j, none⟩ := by unfold Addr.add; split <;> simp_all
  rw [hadd]
  rw [List.getElem?_map] at hu
  cases hj : ns[j]? with
  | none => rw [hj] at hu; cases hu
  | some n => rw [hj] at hu; injection hu with hu; subst hu; exact hc j n hj

set_option maxHeartbeats 800000 in
set_option maxRecDepth 100000 in
theorem cloneInt_ok (A : Option Addr) (c : Nat) (ns : List Int) (w : World) (hA : IntsAt w A ns) (hn : ns.length ≤ 1048576) (hnone : A = none → c = 0) :
    Calls Try.prog 137 #[.slice A ns.length c] w (RetI w ns) := by
  obtain ⟨i0, hi, hz0, hz1, hz2⟩ := info_parts infoI
  have HA := hid hA
  have HN := hid hnone
  clear hA hnone
  go_enter Try.func137, Try.ntmps137
  go_wp2_with (first
    | (at_make; refine wpList_make_own _ rfl _ _ _ rfl w.heap.size 2 i0 (.int .i64 0) 1 Try.underlying24 hi hz0 hz1 .i64 .i64 _ ns.length rfl rfl rfl (by rw [hz2]; omega) (by unfold maxLen; omega) (Nat.le_refl _) ?_; intro w1 hown1 hg1; have HB := hid ((Below.refl _ _).grown hg1 (Nat.le_refl _) (fun k hk => by cases hk)); have HS := hid (ints_src (HA.out.below HB.out)); have HO1 := hid hown1; clear hg1 hown1)
    | (at_builtin; refine wpList_append_fits_any _ rfl _ _ 24 rfl w.heap.size 2 i0 1 Try.underlying24 hi hz1 _ 0 ns.length [] rfl HO1.out A ns.length c (ns.map (Value.int .i64)) rfl (int_len ns) (fun h => fits_none HS.out HN.out (int_len ns) (by omega) h) (fun ad had j u hu => fits_some HS.out had hu) (by simp [Value.oneCell']) (by omega) ?_; intro w2 hown2 hg2; simp only [Nat.zero_add, List.nil_append] at hown2))
  have HO := hid hown2
  have HB2 := hid (HB.out.grown hg2 HB.out.size (fun k hk => by injection hk with hk; subst hk; exact Nat.le_refl _))
  clear hown2 hg2
  (try go_wp2_with fail)
  go_ret
  exact RetI.own (by simpa using HO.out) HB2.out
set_option maxHeartbeats 800000 in
set_option maxRecDepth 100000 in
theorem l00Own_ok (A : Option Addr) (c : Nat) (ns : List Int) (w : World) (hA : IntsAt w A ns) (hn : ns.length ≤ 1048576) (hnone : A = none → c = 0) :
    Calls Try.prog 98 #[.slice A ns.length c] w (RetI w ns) := by
  have HA := hid hA
  have HN := hid hnone
  clear hA hnone
  go_enter Try.func98, Try.ntmps98
  go_wp2_with (at_builtin; refine wpList_app_src (w0 := w) rfl (.tmp 3) (.tmp 4) 24 rfl w.heap.size 2 (.int .i64 0) 1 8 Try.underlying24 infoI rfl (by decide) _ 0 [] rfl (World.ownsRow_lit _ _ 0 (Nat.le_refl _) (by unfold maxLen; omega) rfl) A ns.length c (ns.map (Value.int .i64)) rfl (by simp) HN.out (ints_src (HA.out.below (below_alloc _ _))) (by simp [Value.oneCell']) (by omega) (by simp) (below_alloc _ _) ?_; intro v4 w4 hown4 hbel4 hz4; rw [Nat.zero_add, List.nil_append] at hown4)
  go_ret
  exact RetI.own hown4 hbel4
end Go.Proofs.Ytdbjbkdcmhekfaa
