/- CutRibs: the state of the reference's search. -/
import Derived.Test.YtdbjbkdcmhekfaaCutV
namespace Go.Proofs.Ytdbjbkdcmhekfaa
open Go.RowKit
set_option linter.unusedVariables false

/-- what is used of each strip -/
def usF (strip : Int) (o : Option Int) : Int := (o.map fun f => strip - f).getD 0
def usOf (strip : Int) (fr : List Int) (mo : Nat) : List Int := (List.range mo).map fun i => usF strip fr[i]?
theorem usOf_length (strip : Int) (fr : List Int) (mo : Nat) : (usOf strip fr mo).length = mo := by simp [usOf]
theorem usOf_at {strip : Int} {fr : List Int} {mo i : Nat} (h : i < mo) : (usOf strip fr mo)[i]? = some (usF strip fr[i]?) := by
  unfold usOf
  rw [List.getElem?_map, List.getElem?_range h]
  rfl
theorem usOf_nil (strip : Int) (mo : Nat) : usOf strip [] mo = List.replicate mo 0 := by
  apply List.ext_getElem?
  intro i
  rcases Nat.lt_or_ge i mo with h | h
  · rw [usOf_at h, List.getElem?_replicate, if_pos h]; rfl
  · rw [List.getElem?_eq_none (by rw [usOf_length]; exact h), List.getElem?_eq_none (by simpa using h)]
theorem usOf_set {strip : Int} {fr : List Int} {mo k : Nat} {s v : Int} (hk : k ≤ fr.length) (hm : k < mo) : usOf strip ((frA fr k s).set k v) mo = (usOf strip fr mo).set k (strip - v) := by
  apply List.ext_getElem?
  intro i
  rcases Nat.lt_or_ge i mo with h | h
  · rw [usOf_at h]
    by_cases hi : k = i
    · subst hi
      rw [List.getElem?_set_self (frA_has hk), List.getElem?_set_self (by rw [usOf_length]; exact h)]
      rfl
    · rw [List.getElem?_set_ne hi, List.getElem?_set_ne hi, usOf_at h]
      by_cases hkl : k < fr.length
      · rw [frA_lt hkl]
      · obtain rfl : k = fr.length := by omega
        rw [frA_end]
        rcases Nat.lt_or_ge i fr.length with h2 | h2
        · rw [List.getElem?_append_left h2]
        · rw [List.getElem?_eq_none (by rw [List.length_append, List.length_singleton]; omega), List.getElem?_eq_none h2]
  · rw [List.getElem?_eq_none (by rw [usOf_length]; exact h), List.getElem?_eq_none (by rw [List.length_set, usOf_length]; exact h)]
def FrS (strip : Int) (fr : List Int) : Prop := ∀ f ∈ fr, 0 ≤ f ∧ f < strip
theorem us_facts {strip saw ln : Int} {fr : List Int} {mo k : Nat} (hk : k ≤ fr.length) (hm : k < mo) (hF : FrS strip fr) (hl : 1 ≤ ln) (hs : 0 ≤ saw) (hst : 1 ≤ strip) :
    ∃ uk nk, (usOf strip fr mo)[k]? = some uk ∧ (if uk = 0 then ln else ln + saw) = nk ∧ (strip < uk + nk ↔ frB fr k (strip + saw) < ln + saw) ∧ uk + nk = strip - (frB fr k (strip + saw) - (ln + saw)) ∧ (0 ≤ uk ∧ uk ≤ strip) ∧ ln ≤ nk ∧ nk ≤ ln + saw := by
  rw [usOf_at hm]
  rcases Nat.lt_or_ge k fr.length with h | h
  · have e : frB fr k (strip + saw) = fr[k] := by
      have := frB_at (s := strip + saw) hk
      rw [frA_lt h, List.getElem?_eq_getElem h] at this
      injection this with this
      exact this.symm
    obtain ⟨f0, f1⟩ := hF fr[k] (List.getElem_mem h)
    refine ⟨strip - fr[k], ln + saw, by rw [List.getElem?_eq_getElem h]; rfl, by rw [if_neg (by omega)], ?_, ?_, ?_, ?_, ?_⟩
    all_goals (try rw [e]); omega
  · obtain rfl : k = fr.length := by omega
    have e : frB fr fr.length (strip + saw) = strip + saw := by
      have := frB_at (s := strip + saw) (Nat.le_refl fr.length)
      rw [frA_end, List.getElem?_append_right (Nat.le_refl _), Nat.sub_self] at this
      injection this with this
      exact this.symm
    refine ⟨0, ln, by rw [List.getElem?_eq_none (Nat.le_refl _)]; rfl, by rw [if_pos rfl], ?_, ?_, ?_, ?_, ?_⟩
    all_goals (try rw [e]); omega
theorem FrS.set {strip saw ln : Int} {fr : List Int} {k : Nat} (h : FrS strip fr) (hk : k ≤ fr.length) (hl : 1 ≤ ln) (hs : 0 ≤ saw) (hr : ¬ frB fr k (strip + saw) < ln + saw) : FrS strip ((frA fr k (strip + saw)).set k (frB fr k (strip + saw) - (ln + saw))) := by
  have hb : frB fr k (strip + saw) ≤ strip + saw := by
    have h1 := List.mem_of_getElem? (frB_at (s := strip + saw) hk)
    unfold frA at h1
    split at h1
    · have := h _ h1; omega
    · rcases List.mem_append.1 h1 with h1 | h1
      · have := h _ h1; omega
      · rw [List.mem_singleton.1 h1]; omega
  intro f hf
  by_cases hkl : k < fr.length
  · rw [frA_lt hkl] at hf
    rcases List.mem_or_eq_of_mem_set hf with h1 | h1
    · exact h _ h1
    · omega
  · obtain rfl : k = fr.length := by omega
    rw [frA_end] at hf
    have e : ∀ v : Int, (fr ++ [strip + saw]).set fr.length v = fr ++ [v] := fun v => by
      rw [List.set_append_right _ _ (Nat.le_refl _), Nat.sub_self]; rfl
    rw [e] at hf
    rcases List.mem_append.1 hf with h1 | h1
    · exact h _ h1
    · rw [List.mem_singleton.1 h1]; omega
def RutAt (b : Nat) (LA : Value) (strip saw mo : Int) (us : List Int) (t : List Nat) (nodes bud : Int) (full : Bool) (w : World) : Prop :=
  ∃ (Au : Option Addr) (cu : Nat) (At : Option Addr) (ct : Nat), w.ownsRow b 116 9 (.slice (some ⟨b, 0, none⟩) 1 1) 1 [LA, .int .i64 strip, .int .i64 saw, .int .i64 mo, .slice At t.length ct, .slice Au us.length cu, .int .i64 nodes, .int .i64 bud, .bool full] ∧ w.ownsRow (b + 1) 2 1 (.slice Au us.length cu) us.length (iV us) ∧ w.ownsRow (b + 1) 2 1 (.slice At t.length ct) t.length (tV t) ∧ Apart (.slice Au us.length cu) (.slice At t.length ct)
section
variable {b : Nat} {LA : Value} {strip saw mo : Int} {us : List Int} {t : List Nat} {nodes bud : Int} {full : Bool} {w : World}
theorem RutAt.lt (h : RutAt b LA strip saw mo us t nodes bud full w) : b < w.heap.size := by
  obtain ⟨Af, cf, At, ct, ho, hf, ht, hap⟩ := h
  exact (ho.lt b rfl).2
theorem RutAt.drewN (h : RutAt b LA strip saw mo us t nodes bud full w) (n : Nat) : RutAt b LA strip saw mo us t nodes bud full (w.drewN n) := h
theorem RutAt.drew (h : RutAt b LA strip saw mo us t nodes bud full w) : RutAt b LA strip saw mo us t nodes bud full w.drew := h
theorem RutAt.setNodes (h : RutAt b LA strip saw mo us t nodes bud full w) (l2 : Int) : RutAt b LA strip saw mo us t l2 bud full (w.setCell ⟨b, 6, none⟩ (.int .i64 l2)) ∧ Below b w (w.setCell ⟨b, 6, none⟩ (.int .i64 l2)) := by
  obtain ⟨Af, cf, At, ct, ho, hf, ht, hap⟩ := h
  exact ⟨⟨Af, cf, At, ct, own_setCells [.int .i64 l2] (p := 6) ho, own_apart hf (by simp) _, own_apart ht (by simp) _, hap⟩, (Below.refl b w).setCell (p := ⟨b, 6, none⟩) (Nat.le_refl _) _⟩
theorem RutAt.setFull (h : RutAt b LA strip saw mo us t nodes bud full w) : RutAt b LA strip saw mo us t nodes bud true (w.setCell ⟨b, 8, none⟩ (.bool true)) ∧ Below b w (w.setCell ⟨b, 8, none⟩ (.bool true)) := by
  obtain ⟨Af, cf, At, ct, ho, hf, ht, hap⟩ := h
  exact ⟨⟨Af, cf, At, ct, own_setCells [.bool true] (p := 8) ho, own_apart hf (by simp) _, own_apart ht (by simp) _, hap⟩, (Below.refl b w).setCell (p := ⟨b, 8, none⟩) (Nat.le_refl _) _⟩
/-- what is used of a strip: where it lies, and stored anew -/
theorem RutAt.setU {k : Nat} {u : Int} (h : RutAt b LA strip saw mo us t nodes bud full w) (hk : us[k]? = some u) :
    ∃ g c, (w.cell? ⟨b, 5, none⟩ = some (.slice (some ⟨g, 0, none⟩) us.length c) ∧ (g ≠ b ∧ us.length ≤ c)) ∧ (w.cell? ⟨g, k, none⟩ = some (.int .i64 u) ∧ w.frozen? ⟨g, k, none⟩ = false) ∧ ∀ v : Int, RutAt b LA strip saw mo (us.set k v) t nodes bud full (w.setCell ⟨g, k, none⟩ (.int .i64 v)) ∧ Below b w (w.setCell ⟨g, k, none⟩ (.int .i64 v)) := by
  have hkl : k < us.length := (List.getElem?_eq_some_iff.1 hk).1
  obtain ⟨Af, cf, At, ct, ho, hf, ht, hap⟩ := h
  obtain ⟨g, cg, hv, hbg, hgl, hcl⟩ := own_form hf (by omega)
  injection hv with a1 a2 a3
  subst a1 a3
  have hgt : (Value.slice At t.length ct).ownBlock ≠ some g := by
    rcases hap.comm with h1 | h1
    · rw [h1]; exact fun e => by cases e
    · exact h1
  refine ⟨g, cf, ⟨ho.cellAt 5 (by omega), by omega, hcl⟩, ⟨?_, hf.frozenAt k⟩, fun v => ⟨⟨some ⟨g, 0, none⟩, cf, At, ct, ?_, ?_, ?_, ?_⟩, (Below.refl b w).setCell (p := ⟨g, k, none⟩) (by show b ≤ g; omega) _⟩⟩
  · rw [hf.cellAt k (by omega), iV, List.getElem?_map, hk]; rfl
  · rw [List.length_set]
    exact ownsRow_setCell_other ho (a := ⟨g, k, none⟩) (by show some b ≠ some g; intro e; injection e with e; omega) _
  · have h1 := own_setCells [.int .i64 v] (p := k) hf
    rw [List.length_set]
    have e : iV (us.set k v) = setSeg (iV us) k [.int .i64 v] := by unfold iV; rw [List.map_set]; rfl
    rw [e]
    exact h1
  · exact ownsRow_setCell_other ht (a := ⟨g, k, none⟩) hgt _
  · rw [List.length_set]; exact hap
theorem RutAt.cutT {k : Nat} (h : RutAt b LA strip saw mo us (t ++ [k]) nodes bud full w) :
    ∃ g c, (w.cell? ⟨b, 4, none⟩ = some (.slice (some ⟨g, 0, none⟩) (t.length + 1) c) ∧ ((t.length ≤ c ∧ ¬ c = 0) ∧ c ≤ 9223372036854775807)) ∧ w.frozen? ⟨b, 4, none⟩ = false ∧ RutAt b LA strip saw mo us t nodes bud full (w.setCell ⟨b, 4, none⟩ (.slice (some ⟨g, 0, none⟩) t.length c)) ∧ Below b w (w.setCell ⟨b, 4, none⟩ (.slice (some ⟨g, 0, none⟩) t.length c)) := by
  obtain ⟨Af, cf, At, ct, ho, hf, ht, hap⟩ := h
  obtain ⟨g, cg, hv, hbg, hgl, hcl⟩ := own_form ht (by simp)
  injection hv with a1 a2 a3
  subst a1 a3
  have hcp := own_capP ht
  have e : (t ++ [k]).length = t.length + 1 := by simp
  rw [e] at ho ht hcp hap
  have h1 := own_shrink' ht (show t.length ≤ t.length + 1 by omega)
  rw [tV_app, List.take_left' (by rw [tV_len]; omega)] at h1
  exact ⟨g, ct, ⟨ho.cellAt 4 (by omega), ⟨⟨by omega, by omega⟩, hcp.2⟩⟩, ho.frozenAt 4, ⟨Af, cf, some ⟨g, 0, none⟩, ct, own_setCells [.slice (some ⟨g, 0, none⟩) t.length ct] (p := 4) ho, own_apart hf (by simp) _, own_apart h1 (by simp) _, hap⟩, (Below.refl b w).setCell (p := ⟨b, 4, none⟩) (Nat.le_refl _) _⟩
end
theorem l06Take_ok (u ln saw r : Int) (w : World) (h : (if u = 0 then ln else ln + saw) = r) (h0 : 0 ≤ ln ∧ ln ≤ 100000) (h1 : 0 ≤ saw ∧ saw ≤ 100000) : Calls Try.prog 141 #[.int .i64 u, .int .i64 ln, .int .i64 saw] w fun e w' => e = .returned (.int .i64 r) ∧ w = w' := by
  have HR := hid h
  clear h
  by_cases hu : u = 0
  · have d1 : (u == 0) = true := by rw [beq_iff_eq]; exact hu
    have HE := hid (show ln = r by rw [← HR.out, if_pos hu])
    clear hu
    go_enter Try.func141, Try.ntmps141
    go_wp2_with fail
    go_ret
    exact ⟨ret_int HE.out, rfl⟩
  · have d1 : (u == 0) = false := by rw [beq_eq_false_iff_ne]; exact hu
    have HE := hid (show ln + saw = r by rw [← HR.out, if_neg hu])
    clear hu
    go_enter Try.func141, Try.ntmps141
    go_wp2_with fail
    go_ret
    exact ⟨ret_int HE.out, rfl⟩
end Go.Proofs.Ytdbjbkdcmhekfaa
