/- A plan in memory: rows of 40 days, each in a block of its own; the laws' equality and marks over it. -/
import Derived.Test.YtdbjbkdcmhekfaaPlcM
import Derived.Test.YtdbjbkdcmhekfaaNestR
import Derived.Test.YtdbjbkdcmhekfaaMarks
import Derived.Test.YtdbjbkdcmhekfaaKeepM
import Derived.Deep.DeepCutAuto
namespace Go.Proofs.Ytdbjbkdcmhekfaa
open Go.RowKit
set_option linter.unusedVariables false

def iVP (l : List Int) : List Value := l.map (Value.int .i64)
def gV (g : Nat) : Value := .slice (some ⟨g, 0, none⟩) 40 40
structure PlanR (w : World) (B E p c : Nat) (gs : List Nat) (rows : List (List Int)) : Prop where
  outer : w.ownsRow B 24 1 (.slice (some ⟨p, 0, none⟩) rows.length c) rows.length (gs.map gV)
  len : gs.length = rows.length
  apart : gs.Nodup
  away : ∀ g ∈ gs, g ≠ p
  gl : B ≤ p ∧ p < E
  gsl : ∀ g ∈ gs, B ≤ g ∧ g < E
  inner : ∀ (i g : Nat) (r : List Int), gs[i]? = some g → rows[i]? = some r → w.ownsRow g 2 1 (gV g) 40 (iVP r)
theorem PlanR.below {w w' : World} {B E p c : Nat} {gs : List Nat} {rows : List (List Int)} (h : PlanR w B E p c gs rows) (hb : Below w.heap.size w w') : PlanR w' B E p c gs rows :=
  ⟨own_below h.outer hb, h.len, h.apart, h.away, h.gl, h.gsl, fun i g r h1 h2 => own_below (h.inner i g r h1 h2) hb⟩
theorem PlanR.wide {w : World} {B E B' E' p c : Nat} {gs : List Nat} {rows : List (List Int)} (h : PlanR w B E p c gs rows) (hB : B' ≤ B) (hE : E ≤ E') : PlanR w B' E' p c gs rows :=
  ⟨own_mono h.outer hB, h.len, h.apart, h.away, by have := h.gl; omega, fun g hg => by have := h.gsl g hg; omega, h.inner⟩
theorem PlanR.chg {w w' : World} {B E p c l h' : Nat} {gs : List Nat} {rows : List (List Int)} (h : PlanR w B E p c gs rows) (q : Chg l h' w w') (hh : h' ≤ B ∨ E ≤ l) : PlanR w' B E p c gs rows :=
  ⟨own_other h.outer q (fun g' hg' => by have e : p = g' := (by simpa [Value.ownBlock] using hg'); have := h.gl; omega), h.len, h.apart, h.away, h.gl, h.gsl,
    fun i g r h1 h2 => own_other (h.inner i g r h1 h2) q (fun g' hg' => by have e : g = g' := (by simpa [gV, Value.ownBlock] using hg'); have := h.gsl g (List.mem_of_getElem? h1); omega)⟩
theorem PlanR.row {w : World} {B E p c i : Nat} {gs : List Nat} {rows : List (List Int)} {r : List Int} (h : PlanR w B E p c gs rows) (hi : rows[i]? = some r) : ∃ g, gs[i]? = some g ∧ w.cell? ⟨p, i, none⟩ = some (gV g) ∧ w.ownsRow g 2 1 (gV g) 40 (iVP r) ∧ r.length = 40 ∧ p < w.heap.size ∧ g < w.heap.size := by
  have hil := (List.getElem?_eq_some_iff.1 hi).1
  have hig : i < gs.length := by rw [h.len]; exact hil
  have hg : gs[i]? = some gs[i] := List.getElem?_eq_getElem hig
  have ho := h.inner i _ r hg hi
  refine ⟨gs[i], hg, ?_, ho, by have := ho.1; simpa [iVP] using this, (h.outer.lt p rfl).2, (ho.lt _ rfl).2⟩
  rw [h.outer.cellAt i (by omega), List.getElem?_map, hg]
  rfl
theorem PlanR.lt {w : World} {B E p c : Nat} {gs : List Nat} {rows : List (List Int)} (h : PlanR w B E p c gs rows) : p < w.heap.size := (h.outer.lt p rfl).2
theorem nodup_at {gs : List Nat} (h : gs.Nodup) {i j g : Nat} (hi : gs[i]? = some g) (hj : gs[j]? = some g) : i = j := by
  obtain ⟨h1, h2⟩ := List.getElem?_eq_some_iff.1 hi
  obtain ⟨h3, h4⟩ := List.getElem?_eq_some_iff.1 hj
  exact (List.getElem_inj h).1 (h2.trans h4.symm)
/-- a row turned -/
theorem PlanR.set {w w' : World} {B E p c i g : Nat} {gs : List Nat} {rows : List (List Int)} {r' : List Int} (h : PlanR w B E p c gs rows) (hg : gs[i]? = some g) (q : Chg g (g + 1) w w') (ho : w'.ownsRow g 2 1 (gV g) 40 (iVP r')) : PlanR w' B E p c gs (rows.set i r') := by
  have hgm := List.mem_of_getElem? hg
  refine ⟨?_, by rw [List.length_set]; exact h.len, h.apart, h.away, h.gl, h.gsl, fun j g2 r h1 h2 => ?_⟩
  · rw [List.length_set]
    exact own_other h.outer q (fun g' hg' => by have e : p = g' := (by simpa [Value.ownBlock] using hg'); have := h.away g hgm; omega)
  · by_cases hij : i = j
    · subst hij
      rw [hg] at h1
      injection h1 with h1
      subst h1
      have hil : i < rows.length := by have := (List.getElem?_eq_some_iff.1 hg).1; rw [h.len] at this; exact this
      rw [List.getElem?_set_self hil] at h2
      injection h2 with h2
      subst h2
      exact ho
    · rw [List.getElem?_set_ne hij] at h2
      refine own_other (h.inner j g2 r h1 h2) q (fun g' hg' => ?_)
      have e : g2 = g' := (by simpa [gV, Value.ownBlock] using hg')
      have : g2 ≠ g := fun e2 => hij (nodup_at h.apart hg (by rw [← e2]; exact h1))
      omega
/-- nil, or owned -/
def PlanV (w : World) (B E : Nat) (A : Option Addr) (c : Nat) (rows : List (List Int)) : Prop := (rows = [] ∧ A = none ∧ c = 0) ∨ ∃ p gs, A = some ⟨p, 0, none⟩ ∧ PlanR w B E p c gs rows
theorem PlanV.below {w w' : World} {B E : Nat} {A : Option Addr} {c : Nat} {rows : List (List Int)} (h : PlanV w B E A c rows) (hb : Below w.heap.size w w') : PlanV w' B E A c rows := h.imp id fun ⟨p, gs, h1, h2⟩ => ⟨p, gs, h1, h2.below hb⟩
theorem PlanV.low {w w' : World} {B E : Nat} {A : Option Addr} {c l h' : Nat} {rows : List (List Int)} (h : PlanV w B E A c rows) (q : Chg l h' w w') (hh : E ≤ l) : PlanV w' B E A c rows := h.imp id fun ⟨p, gs, h1, h2⟩ => ⟨p, gs, h1, h2.chg q (.inr hh)⟩
theorem PlanV.high {w w' : World} {B E : Nat} {A : Option Addr} {c l h' : Nat} {rows : List (List Int)} (h : PlanV w B E A c rows) (q : Chg l h' w w') (hh : h' ≤ B) : PlanV w' B E A c rows := h.imp id fun ⟨p, gs, h1, h2⟩ => ⟨p, gs, h1, h2.chg q (.inl hh)⟩
/-- a plan to be read -/
def PlanAt (w : World) (A : Option Addr) (rows : List (List Int)) : Prop := rows ≠ [] → ∃ p, A = some ⟨p, 0, none⟩ ∧ p < w.heap.size ∧ ∀ (i : Nat) (r : List Int), rows[i]? = some r → ∃ g, w.cell? ⟨p, i, none⟩ = some (gV g) ∧ IntsAt w (some ⟨g, 0, none⟩) r ∧ r.length = 40
theorem hdInt64S_length : True := trivial
theorem inInt64S_len : True := trivial
theorem PlanV.at {w : World} {B E : Nat} {A : Option Addr} {c : Nat} {rows : List (List Int)} (h : PlanV w B E A c rows) (_ _ : True) : PlanAt w A rows := fun hne => by
  rcases h with ⟨h, -⟩ | ⟨p, gs, hA, h⟩
  · exact absurd h hne
  · refine ⟨p, hA, h.lt, fun i r hi => ?_⟩
    obtain ⟨g, -, h2, h3, h4, -⟩ := h.row hi
    exact ⟨g, h2, ints_own h3, h4⟩
theorem PlanAt.below {w w' : World} {A : Option Addr} {rows : List (List Int)} (h : PlanAt w A rows) (hb : Below w.heap.size w w') : PlanAt w' A rows := fun hne => by
  obtain ⟨p, hA, hl, hc⟩ := h hne
  refine ⟨p, hA, Nat.lt_of_lt_of_le hl hb.size, fun i r hi => ?_⟩
  obtain ⟨g, h1, h2, h3⟩ := hc i r hi
  exact ⟨g, (hb.cell (p := ⟨p, i, none⟩) hl).trans h1, h2.below hb, h3⟩
set_option maxHeartbeats 1600000 in
set_option maxRecDepth 100000 in
theorem eqInt64SS_same (A A' : Option Addr) (c c' : Nat) (rows : List (List Int)) (w : World) (hA : PlanAt w A rows) (hA' : PlanAt w A' rows) (hn : rows.length ≤ 1048576) (hi : ∀ x ∈ rows, x.length ≤ 1048576) :
    Calls Try.prog 28 #[.slice A rows.length c, .slice A' rows.length c'] w fun e w' => e = .returned (.bool true) ∧ Below w.heap.size w w' := by
  have HA := hid hA
  have HA' := hid hA'
  clear hA hA' hi
  go_enter Try.func28, Try.ntmps28
  go_wp2_with fail
  go_loopw [5] (fun i wr => ∃ k : Nat, k ≤ rows.length ∧ i = .int .i64 k ∧ Below w.heap.size w wr) (fun i _ => rows.length - (intOf i).toNat)
  case atStart => exact ⟨0, Nat.zero_le _, rfl, Below.refl _ _⟩
  case round =>
    obtain ⟨k, hk, rfl, hbel⟩ := hrel
    have HB := hid hbel
    clear hbel
    by_cases hkl : k < rows.length
    · obtain ⟨p, rfl, hp, hc⟩ := HA.out (by intro e; rw [e] at hkl; exact absurd hkl (by simp))
      obtain ⟨p2, rfl, hp2, hc2⟩ := HA'.out (by intro e; rw [e] at hkl; exact absurd hkl (by simp))
      obtain ⟨r, hr⟩ : ∃ r, rows[k]? = some r := ⟨_, List.getElem?_eq_getElem hkl⟩
      obtain ⟨g, h1, hI, hL⟩ := hc k r hr
      obtain ⟨g2, h2, hI2, -⟩ := hc2 k r hr
      have HI := hid hI
      have HI2 := hid hI2
      have HL := hid hL
      have c1 : wr.cell? ⟨p, k, none⟩ = some (gV g) := (HB.out.cell (p := ⟨p, k, none⟩) hp).trans h1
      have c2 : wr.cell? ⟨p2, k, none⟩ = some (gV g2) := (HB.out.cell (p := ⟨p2, k, none⟩) hp2).trans h2
      have q0 : (0 : Int) ≤ (k : Int) := by omega
      have q1 : (k : Int) < rows.length := by omega
      clear hc hc2 h1 h2 hr hI hI2
      go_upto_region 6 with fail
      refine wp_region_held_drew (S := (fun w' => (True ∧ Below w.heap.size w w') ∧ w'.cell? ⟨p, k, none⟩ = some (gV g) ∧ w'.cell? ⟨p2, k, none⟩ = some (gV g2))) (by kernel_rfl) ⟨⟨trivial, HB.out.drew⟩, c1, c2⟩ (fun hHeld => ?_)
      refine wpAnyH_take (i := 0) (oi := ⟨some 17, _, _, _, _, _⟩) (v := ?_) rfl (by kernel_rfl) (by kernel_rfl) (by kernel_rfl) (fun _ _ _ h => h) (Or.inl ⟨by rfl, ?_⟩) (by assumption) ?_
      rotate_left
      · (intro w hSw; (try dsimp only at hSw); go_simp; try with_reducible rfl)
      try simp only [Act.put, List.setIfInBounds_toArray, List.set_cons_zero, List.set_cons_succ]
      refine wpAnyH_take (i := 1) (oi := ⟨some 18, _, _, _, _, _⟩) (v := ?_) rfl (by kernel_rfl) (by kernel_rfl) (by kernel_rfl) (fun _ _ _ h => h) (Or.inl ⟨by rfl, ?_⟩) (by assumption) ?_
      rotate_left
      · (intro w hSw; (try dsimp only at hSw); go_simp; try with_reducible rfl)
      try simp only [Act.put, List.setIfInBounds_toArray, List.set_cons_zero, List.set_cons_succ]
      refine wpAnyH_take (i := 2) (oi := ⟨some 19, _, _, _, _, _⟩) (v := ?_) rfl (by kernel_rfl) (by kernel_rfl) (by kernel_rfl) (fun _ _ _ h => h) (Or.inl ⟨by rfl, ?_⟩) (by assumption) ?_
      rotate_left
      · (intro w hSw; (try dsimp only at hSw); go_simp; try with_reducible rfl)
      try simp only [Act.put, List.setIfInBounds_toArray, List.set_cons_zero, List.set_cons_succ]
      refine wpAnyH_take (i := 3) (oi := ⟨some 20, _, _, _, _, _⟩) (v := ?_) rfl (by kernel_rfl) (by kernel_rfl) (by kernel_rfl) (fun _ _ _ h => h) (Or.inl ⟨by rfl, ?_⟩) (by assumption) ?_
      rotate_left
      · (intro w hSw; (try dsimp only at hSw); go_simp; try with_reducible rfl)
      try simp only [Act.put, List.setIfInBounds_toArray, List.set_cons_zero, List.set_cons_succ]
      refine wpAnyH_take (i := 4) (oi := ⟨some 21, _, _, _, _, _⟩) (v := ?_) rfl (by kernel_rfl) (by kernel_rfl) (by kernel_rfl) (fun _ _ _ h => h) (Or.inl ⟨by rfl, ?_⟩) (by assumption) ?_
      rotate_left
      · (intro w hSw; (try dsimp only at hSw); go_simp; try with_reducible rfl)
      try simp only [Act.put, List.setIfInBounds_toArray, List.set_cons_zero, List.set_cons_succ]
      refine wpAnyH_take (i := 5) (oi := ⟨some 22, _, _, _, _, _⟩) (v := ?_) rfl (by kernel_rfl) (by kernel_rfl) (by kernel_rfl) (fun _ _ _ h => h) (Or.inl ⟨by rfl, ?_⟩) (by assumption) ?_
      rotate_left
      · (intro w hSw; (try dsimp only at hSw); go_simp; try with_reducible rfl)
      try simp only [Act.put, List.setIfInBounds_toArray, List.set_cons_zero, List.set_cons_succ]
      refine wpAnyH_take (i := 6) (oi := ⟨some 23, _, _, _, _, _⟩) (v := ?_) rfl (by kernel_rfl) (by kernel_rfl) (by kernel_rfl) (fun _ _ _ h => h) (Or.inl ⟨by rfl, ?_⟩) (by assumption) ?_
      rotate_left
      · (intro w hSw; (try dsimp only at hSw); go_simp; try with_reducible rfl)
      try simp only [Act.put, List.setIfInBounds_toArray, List.set_cons_zero, List.set_cons_succ]
      refine wpAnyH_take (i := 7) (oi := ⟨some 24, _, _, _, _, _⟩) (v := ?_) rfl (by kernel_rfl) (by kernel_rfl) (by kernel_rfl) (fun _ _ _ h => h) (Or.inl ⟨by rfl, ?_⟩) (by assumption) ?_
      rotate_left
      · (intro w hSw; (try dsimp only at hSw); go_simp; try with_reducible rfl)
      try simp only [Act.put, List.setIfInBounds_toArray, List.set_cons_zero, List.set_cons_succ]
      refine wpAnyH_ready (rs := [8]) (by kernel_rfl) (by simp) ?_
      refine AllReadyH.cons (o := ⟨some 25, _, _, _, _, _⟩) rfl (fun K hK => ?_) AllReadyH.nil
      go_simp
      go_at_call 13; have h9 := eqInt64S_same (some ⟨g, 0, none⟩) (some ⟨g2, 0, none⟩) 40 40 r _ (HI.out.below hHeld.1.2) (HI2.out.below hHeld.1.2) (by omega); rw [HL.out] at h9; refine h9.mono ?_; clear h9; rintro e w6 ⟨rfl, hb6⟩
      (try go_wp2_with fail)
      refine hK.out _ _ (keepM2 hp hp2 ‹_ ∧ _› hb6) (fun hHeld => ?_)
      clear hK K
      try simp only [Act.put, List.setIfInBounds_toArray, List.set_cons_zero, List.set_cons_succ]
      refine wpAnyH_take (i := 9) (oi := ⟨some 26, _, _, _, _, _⟩) (v := ?_) rfl (by kernel_rfl) (by kernel_rfl) (by kernel_rfl) (fun _ _ _ h => h) (Or.inl ⟨by rfl, ?_⟩) (by assumption) ?_
      rotate_left
      · (intro w hSw; (try dsimp only at hSw); go_simp; try with_reducible rfl)
      try simp only [Act.put, List.setIfInBounds_toArray, List.set_cons_zero, List.set_cons_succ]
      refine wpAnyH_done (by kernel_rfl) ?_ _
      obtain ⟨⟨-, hBw⟩, -⟩ := hHeld
      go_wp2_with fail
      go_roundw
      case rel => exact ⟨k + 1, by omega, by go_num, hBw⟩
      case measure => simp [intOf]; omega
    · go_wp2_with fail
      go_ret
      exact ⟨rfl, HB.out⟩
/-- the first j rows marked -/
def markP (k : Int) (rows : List (List Int)) (j : Nat) : List (List Int) := (List.range rows.length).map fun i => if i < j then countI (k + 40 * (i : Int)) 40 else rowN rows i
theorem markP_length (k : Int) (rows : List (List Int)) (j : Nat) : (markP k rows j).length = rows.length := by simp [markP]
theorem markP_at {k : Int} {rows : List (List Int)} {j i : Nat} (h : i < rows.length) : (markP k rows j)[i]? = some (if i < j then countI (k + 40 * (i : Int)) 40 else rowN rows i) := by
  unfold markP
  rw [List.getElem?_map, List.getElem?_range h]
  rfl
theorem markP_zero (k : Int) (rows : List (List Int)) : markP k rows 0 = rows := by
  apply List.ext_getElem?
  intro i
  rcases Nat.lt_or_ge i rows.length with h | h
  · rw [markP_at h, if_neg (by omega), rowN_at h, List.getElem?_eq_getElem h]
  · rw [List.getElem?_eq_none (by rw [markP_length]; exact h), List.getElem?_eq_none h]
theorem markP_set {k : Int} {rows : List (List Int)} {j : Nat} (hj : j < rows.length) : (markP k rows j).set j (countI (k + 40 * (j : Int)) 40) = markP k rows (j + 1) := by
  apply List.ext_getElem?
  intro i
  rcases Nat.lt_or_ge i rows.length with h | h
  · by_cases hi : j = i
    · subst hi
      rw [List.getElem?_set_self (by rw [markP_length]; exact h), markP_at h, if_pos (by omega)]
    · rw [List.getElem?_set_ne hi, markP_at h, markP_at h]
      by_cases h2 : i < j
      · rw [if_pos h2, if_pos (by omega)]
      · rw [if_neg h2, if_neg (by omega)]
  · rw [List.getElem?_eq_none (by rw [List.length_set, markP_length]; exact h), List.getElem?_eq_none (by rw [markP_length]; exact h)]
def countP (k : Int) (rows : List (List Int)) : List (List Int) := markP k rows rows.length
def endP (k : Int) (rows : List (List Int)) : Int := k + 40 * (rows.length : Int)
theorem endP_pos (k : Int) (rows : List (List Int)) (h : 0 < k) : 0 < endP k rows := by unfold endP; omega
set_option maxHeartbeats 1600000 in
set_option maxRecDepth 100000 in
theorem markInt64SV_ok (A : Option Addr) (c B E : Nat) (rows : List (List Int)) (k : Int) (w : World) (hv : PlanV w B E A c rows) (hk0 : 0 < k) (hk1 : k ≤ 100000000000000) (hn : rows.length ≤ 1048576) (hi : ∀ x ∈ rows, x.length ≤ 1048576) :
    Calls Try.prog 31 #[.slice A rows.length c, .int .i64 k] w fun e w' => e = .returned (.int .i64 (endP k rows)) ∧ PlanV w' B E A c (countP k rows) ∧ Chg B E w w' := by
  rcases hv with ⟨rfl, rfl, rfl⟩ | ⟨p, gs, rfl, h⟩
  · have HE := hid (show k = endP k [] by unfold endP; simp)
    go_enter Try.func31, Try.ntmps31
    go_wp2_with fail
    go_loop [1, 5] (fun v i => v = .int .i64 k ∧ i = .int .i64 0) (fun _ _ => 0)
    case atStart => exact ⟨rfl, rfl⟩
    case round =>
      obtain ⟨rfl, rfl⟩ := hrel
      go_wp2_with fail
      go_ret
      exact ⟨ret_int HE.out, .inl ⟨rfl, rfl, rfl⟩, Chg.refl _ _ _⟩
  · have H0 := hid h
    clear h hi
    go_enter Try.func31, Try.ntmps31
    go_wp2_with fail
    go_loopw [1, 5] (fun v i wr => ∃ j : Nat, j ≤ rows.length ∧ i = .int .i64 (j : Int) ∧ v = .int .i64 (k + 40 * (j : Int)) ∧ PlanR wr B E p c gs (markP k rows j) ∧ Chg B E w wr) (fun _ i _ => rows.length - (intOf i).toNat)
    case atStart => exact ⟨0, Nat.zero_le _, rfl, by simp, by rw [markP_zero]; exact H0.out, Chg.refl _ _ _⟩
    case round =>
      obtain ⟨j, hj, rfl, rfl, hp, hq⟩ := hrel
      have HP := hid hp
      have HQ := hid hq
      clear hp hq
      by_cases hjl : j < rows.length
      · obtain ⟨r, hr⟩ : ∃ r, (markP k rows j)[j]? = some r := ⟨_, List.getElem?_eq_getElem (by rw [markP_length]; exact hjl)⟩
        obtain ⟨g, hg, c1, ho, hL, hpl, hgl⟩ := HP.out.row hr
        have hgs := HP.out.gsl g (List.mem_of_getElem? hg)
        have HG := hid hg
        have hcall := markInt64S_ok (some ⟨g, 0, none⟩) 40 g (g + 1) r (k + 40 * (j : Int)) wr (by rw [hL]; exact ho) (fun g' h => by have e : g = g' := (by simpa [Value.ownBlock] using h); omega) (by omega) (by omega) (by omega)
        rw [hL] at hcall
        have HC := hid hcall
        have q0 : (0 : Int) ≤ (j : Int) := by omega
        have q1 : (j : Int) < rows.length := by omega
        clear hr hg hcall ho hL
        go_wp2_with fail
        refine HC.out.mono ?_
        rintro e w6 ⟨rfl, ho6, hq6⟩
        have HN := hid (show PlanR w6 B E p c gs (markP k rows (j + 1)) by
          rw [← markP_set hjl]
          exact HP.out.set HG.out hq6 ho6)
        have HQ6 := hid (HQ.out.trans (hq6.wide (by omega) (by omega)))
        clear ho6 hq6 c1
        go_wp2_with fail
        go_roundw
        case rel => exact ⟨j + 1, by omega, by go_num, by congr 1; omega, HN.out, HQ6.out⟩
        case measure => simp [intOf]; omega
      · have hj2 : j = rows.length := by omega
        have HE := hid (show k + 40 * (j : Int) = endP k rows by unfold endP; rw [hj2])
        have HPV := hid (show PlanR wr B E p c gs (countP k rows) by unfold countP; rw [← hj2]; exact HP.out)
        clear hj2
        go_wp2_with fail
        go_ret
        refine ⟨ret_int HE.out, .inr ⟨p, gs, rfl, HPV.out⟩, HQ.out⟩
set_option maxHeartbeats 1600000 in
set_option maxRecDepth 100000 in
theorem heldInt64SS_ok (A : Option Addr) (c : Nat) (rows : List (List Int)) (k : Int) (w : World) (hA : PlanAt w A (countP k rows)) (hk0 : 0 < k) (hk1 : k ≤ 100000000000000) (hn : rows.length ≤ 1048576) (hi : ∀ x ∈ rows, x.length ≤ 1048576) :
    Calls Try.prog 32 #[.slice A rows.length c, .int .i64 k] w fun e w' => e = .returned (.int .i64 (endP k rows)) ∧ Below w.heap.size w w' := by
  have HA := hid hA
  clear hA hi
  go_enter Try.func32, Try.ntmps32
  go_wp2_with fail
  go_loop [1, 5] (fun v i => ∃ j : Nat, j ≤ rows.length ∧ i = .int .i64 (j : Int) ∧ v = .int .i64 (k + 40 * (j : Int))) (fun _ i => rows.length - (intOf i).toNat)
  case atStart => exact ⟨0, Nat.zero_le _, rfl, by simp⟩
  case round =>
    obtain ⟨j, hj, rfl, rfl⟩ := hrel
    by_cases hjl : j < rows.length
    · obtain ⟨p, rfl, hp, hc⟩ := HA.out (by intro e; have := congrArg List.length e; unfold countP at this; rw [markP_length, List.length_nil] at this; omega)
      obtain ⟨g, c1, hI, hL⟩ := hc j _ (by unfold countP; exact markP_at hjl)
      rw [if_pos hjl] at hI
      have HI := hid hI
      have hcall := heldInt64S_ok (some ⟨g, 0, none⟩) 40 40 (k + 40 * (j : Int)) w HI.out (by omega) (by omega) (by omega)
      have HC := hid hcall
      have q0 : (0 : Int) ≤ (j : Int) := by omega
      have q1 : (j : Int) < rows.length := by omega
      have q2 : ¬ k + 40 * (j : Int) + 40 < 0 := by omega
      clear hc hI hL hcall
      go_wp2_with fail
      refine HC.out.mono ?_
      rintro e w6 ⟨rfl, rfl⟩
      go_wp2_with fail
      go_round
      case rel => exact ⟨j + 1, by omega, by go_num, by congr 1; omega⟩
      case measure => simp [intOf]; omega
    · have hj2 : j = rows.length := by omega
      have HE := hid (show k + 40 * (j : Int) = endP k rows by unfold endP; rw [hj2])
      clear hj2
      go_wp2_with fail
      go_ret
      exact ⟨ret_int HE.out, Below.refl _ _⟩

end Go.Proofs.Ytdbjbkdcmhekfaa
