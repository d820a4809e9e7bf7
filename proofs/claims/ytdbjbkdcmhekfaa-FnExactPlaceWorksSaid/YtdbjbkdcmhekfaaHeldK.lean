/- A region that draws its order (XHeldT): a read that the last stores wait on by way of another operation. No program in sight. -/
import Derived.Test.YtdbjbkdcmhekfaaHeldT
namespace Go.Proofs.Ytdbjbkdcmhekfaa
open Go
set_option linter.unusedVariables false

section
variable {P : Program} {ops : Array Oper} {Q : Exit → Act → World → Prop} {md : Region.Mode} {S : World → Prop} {brk : List Nat}

theorem wpAnyT_firstK {i k : Nat} {oi : Oper} {v : Value} (hi : ops[i]? = some oi) (hsel : ∀ (j : Nat) (o : Oper) cs b, ops[j]? = some o → o.op ≠ .select cs b) (hib : i ∉ brk)
    (hk : ∀ ok, ops[k]? = some ok → ∃ e ∈ ok.after, Region.binds md e = true ∧ e.on = i)
    (hwait : ∀ b ∈ brk, ∀ ob, ops[b]? = some ob → ∃ e ∈ ob.after, Region.binds md e = true ∧ e.on = k)
    (hQ : ∀ c a w, Q (.panic c) (a.put oi.dst v) w → Q (.panic c) a w) :
    ∀ (fuel : Nat) (listed : Array Bool) (a : Act) (w : World),
      (∀ j oj, ops[j]? = some oj → j ≠ i → listed.getD j true = false → (∀ e ∈ oj.after, Region.binds md e = true → e.on ≠ i) → oi.apart ops oj = true) →
      i ∈ Region.ready md ops listed → listed[k]? = some false → brkd brk listed = false → YieldsIf P ops S oi v a → S w →
      wpAnyT P md ops Q S brk fuel (listed.setIfInBounds i true) (a.put oi.dst v) w → wpAnyT P md ops Q S brk (fuel + 1) listed a w := by
  intro fuel
  induction fuel with
  | zero =>
    intro listed a w _ hr hkl hbk hy hS H
    refine ⟨fun h => (by rw [h] at hr; cases hr), fun j hj => ?_⟩
    by_cases hji : j = i
    · subst hji; exact hy.wpOp hi hS ⟨fun _ => hS, H⟩
    · have := ready_mono hj hji
      rw [H.1] at this
      cases this
  | succ fuel ih =>
    intro listed a w hfree hr hkl hbk hy hS H
    refine ⟨fun h => (by rw [h] at hr; cases hr), fun j hj => ?_⟩
    by_cases hji : j = i
    · subst hji; exact hy.wpOp hi hS ⟨fun _ => hS, H⟩
    · have h1 := H.2 j (ready_mono hj hji)
      obtain ⟨hjun, oj, hoj, hall⟩ := mem_ready.1 hj
      have hnot : ∀ e ∈ oj.after, Region.binds md e = true → e.on ≠ i := fun e he hb heq => by
        have h1 := hall e he hb
        have h0 := (mem_ready.1 hr).1
        rw [heq] at h1
        rcases Nat.lt_or_ge i listed.size with h' | h'
        · simp [h'] at h0 h1; rw [h0] at h1; cases h1
        · simp [Array.getElem?_eq_none h'] at h1
      have hjk : j ≠ k := fun hm => by
        subst hm
        obtain ⟨e, he, hb, heq⟩ := hk oj hoj
        exact hnot e he hb heq
      have hjb : j ∉ brk := fun hm => by
        obtain ⟨e, he, hb, heq⟩ := hwait j hm oj hoj
        have h1 := hall e he hb
        rw [heq, Array.getD_eq_getD_getElem?, hkl] at h1
        cases h1
      have h2 := wpOp_putIf hoj (hfree j oj hoj hji hjun hnot) (fun cs b => hsel i oi cs b hi) (fun cs b => hsel j oj cs b hoj) hQ hy h1
      have hfree' : ∀ k ok, ops[k]? = some ok → k ≠ i → (listed.setIfInBounds j true).getD k true = false →
          (∀ e ∈ ok.after, Region.binds md e = true → e.on ≠ i) → oi.apart ops ok = true := fun k ok hk hki hun hno => by
        refine hfree k ok hk hki ?_ hno
        by_cases hjk : j = k
        · subst hjk; exact hjun
        · rw [getD_set_ne true hjk] at hun; exact hun
      have hb1 : brkd brk (listed.setIfInBounds j true) = false := by rw [brkd_set hjb]; exact hbk
      have hb2 : brkd brk ((listed.setIfInBounds i true).setIfInBounds j true) = false := by rw [brkd_set hjb, brkd_set hib]; exact hbk
      have hkl2 : (listed.setIfInBounds j true)[k]? = some false := by rw [Array.getElem?_setIfInBounds_ne hjk]; exact hkl
      refine wpOp_mono (fun a' w' h3 => ⟨fun _ => h3.2.1 hb2, ih (listed.setIfInBounds j true) a' w' hfree' (ready_mono hr (Ne.symm hji)) hkl2 hb1 h3.1 (h3.2.1 hb2) ?_⟩) h2
      rw [Array.setIfInBounds_comm _ _ hji]
      exact h3.2.2
theorem wpAnyT_takeK {i : Nat} (k : Nat) {oi : Oper} {v : Value} {fuel : Nat} {listed : Array Bool} {a : Act} {w : World} (hi : ops[i]? = some oi)
    (hs : Region.noSelect ops = true) (hf : Region.free md ops listed i = true) (hr : (Region.ready md ops listed).contains i = true) (hib : brk.contains i = false) (hw : waitsOn md ops brk k = true) (hw2 : waitsOn md ops [k] i = true) (hkl : listed[k]? = some false) (hb : brkd brk listed = false)
    (hQ : ∀ c a w, Q (.panic c) (a.put oi.dst v) w → Q (.panic c) a w) (hy : YieldsIf P ops S oi v a) (hS : S w)
    (h : wpAnyT P md ops Q S brk fuel (listed.setIfInBounds i true) (a.put oi.dst v) w) : wpAnyT P md ops Q S brk (fuel + 1) listed a w :=
  wpAnyT_firstK hi (Region.noSelect_spec hs) (by simpa using hib) (fun ok ho => waitsOn_spec hw2 k (by simp) ok ho) (waitsOn_spec hw) hQ fuel listed a w (Region.free_spec hi hf) (by simpa using hr) hkl hb hy hS h
end

end Go.Proofs.Ytdbjbkdcmhekfaa
