/- PlaceWorks and its reference. -/
import Derived.Test.YtdbjbkdcmhekfaaPlcB
import Derived.Test.YtdbjbkdcmhekfaaPlcI
import Derived.Test.YtdbjbkdcmhekfaaPlcS
import Derived.Test.YtdbjbkdcmhekfaaRange
namespace Go.Proofs.Ytdbjbkdcmhekfaa
open Go.RowKit
set_option linter.unusedVariables false

def RetPl (w : World) (r : List (List Int) × Int) (e : Ending) (w' : World) : Prop := ∃ A c, e = .returned (.tuple #[.slice A r.1.length c, .int .i64 r.2]) ∧ PlanV w' w.heap.size w'.heap.size A c r.1 ∧ Below w.heap.size w w'
theorem RetPl.nil {w w' : World} {r : List (List Int) × Int} {k : Int} (h : r = ([], k)) (hb : Below w.heap.size w w') : RetPl w r (.returned (.tuple #[.slice none 0 0, .int .i64 k])) w' := by
  subst h
  exact ⟨none, 0, rfl, .inl ⟨rfl, rfl, rfl⟩, hb⟩
theorem RetPl.own {w w' : World} {r : List (List Int) × Int} {p2 : List (List Int)} {n p cp : Nat} {gs : List Nat} (h : r = (p2, 0)) (hl : p2.length = n) (hp : PlanR w' w.heap.size w'.heap.size p cp gs p2) (hb : Below w.heap.size w w') : RetPl w r (.returned (.tuple #[.slice (some ⟨p, 0, none⟩) n cp, .int .i64 0])) w' := by
  subst h hl
  exact ⟨_, _, rfl, .inr ⟨p, gs, rfl, hp⟩, hb⟩
theorem PlanR.here {w : World} {B E p c : Nat} {gs : List Nat} {rows : List (List Int)} (h : PlanR w B E p c gs rows) : PlanR w B w.heap.size p c gs rows :=
  ⟨h.outer, h.len, h.apart, h.away, ⟨h.gl.1, h.lt⟩, fun g hg => ⟨(h.gsl g hg).1, by
    obtain ⟨i, hi, rfl⟩ := List.mem_iff_getElem.1 hg
    exact ((h.inner i gs[i] (rows[i]'(by rw [← h.len]; exact hi)) (List.getElem?_eq_getElem hi) (List.getElem?_eq_getElem _)).lt _ rfl).2⟩, h.inner⟩
theorem PlanV.wideB {w : World} {B B' E : Nat} {A : Option Addr} {c : Nat} {rows : List (List Int)} (h : PlanV w B E A c rows) (hB : B' ≤ B) : PlanV w B' E A c rows := h.imp id fun ⟨p, gs, h1, h2⟩ => ⟨p, gs, h1, h2.wide hB (Nat.le_refl _)⟩

set_option maxHeartbeats 3200000 in
set_option maxRecDepth 100000 in
theorem implPlc_ok (m : Int) (A : Option Addr) (c : Nat) (xs : List DWork) (bud : Int) (w : World) (hA : RowsAt w 4 A (xs.map DWork.cells)) (hok : ∀ x ∈ xs, x.ok) (hn : xs.length ≤ 1048576) :
    Calls Try.prog 27 #[.int .i64 m, .slice A xs.length c, .int .i64 bud] w (RetPl w (fPlc m xs bud)) := by
  have HA := hid hA
  have HK := hid hok
  clear hA hok
  cases c1 : worksB xs
  · have HF := hid (show fPlc m xs bud = ([], 1) by unfold fPlc; rw [if_pos c1])
    go_enter Try.func27, Try.ntmps27
    go_wp2_with fail
    refine (ValidWorks_ok A c xs _ HA.out HK.out hn).mono ?_
    rintro e w1 ⟨rfl, hb1⟩
    have B1 := hid hb1
    have hs1 := hb1.size
    clear hb1
    rw [c1]
    go_wp2_with fail
    go_ret2
    exact RetPl.nil HF.out B1.out
  cases c2 : inB m 1 6
  · have HF := hid (show fPlc m xs bud = ([], 2) by unfold fPlc; rw [if_neg (by rw [c1]; simp), if_pos (.inl c2)])
    go_enter Try.func27, Try.ntmps27
    go_wp2_with fail
    refine (ValidWorks_ok A c xs _ HA.out HK.out hn).mono ?_
    rintro e w1 ⟨rfl, hb1⟩
    have B1 := hid hb1
    have hs1 := hb1.size
    clear hb1
    rw [c1]
    go_wp2_with fail
    refine (within_ok _ _ _ _).mono ?_
    rintro e w' ⟨rfl, rfl⟩
    rw [c2]
    go_wp2_with fail
    go_ret2
    exact RetPl.nil HF.out B1.out
  cases c3 : inB bud 1 20000
  · have HF := hid (show fPlc m xs bud = ([], 2) by unfold fPlc; rw [if_neg (by rw [c1]; simp), if_pos (.inr c3)])
    go_enter Try.func27, Try.ntmps27
    go_wp2_with fail
    refine (ValidWorks_ok A c xs _ HA.out HK.out hn).mono ?_
    rintro e w1 ⟨rfl, hb1⟩
    have B1 := hid hb1
    have hs1 := hb1.size
    clear hb1
    rw [c1]
    go_wp2_with fail
    refine (within_ok _ _ _ _).mono ?_
    rintro e w' ⟨rfl, rfl⟩
    rw [c2]
    go_wp2_with fail
    refine (within_ok _ _ _ _).mono ?_
    rintro e w' ⟨rfl, rfl⟩
    rw [c3]
    go_wp2_with fail
    go_ret2
    exact RetPl.nil HF.out B1.out
  have HF := hid (show fPlc m xs bud = fPlcT m.toNat xs bud by unfold fPlc; rw [if_neg (by rw [c1]; simp), if_neg (by rw [c2, c3]; simp)])
  have hbd := inB_iff.1 c3
  obtain ⟨hm1, hm6⟩ := inB_iff.1 c2
  obtain ⟨n, hne⟩ : ∃ n : Nat, m = (n : Int) := ⟨m.toNat, by omega⟩
  subst hne
  have hn1 : 1 ≤ n := by omega
  have hn6 : n ≤ 6 := by omega
  rw [Int.toNat_natCast] at HF
  obtain ⟨hW, hl8⟩ := worksB_iff.1 c1
  have HX := hid (show ∀ x ∈ xs, workD x = true from fun x hx => by
    obtain ⟨i, hi, rfl⟩ := List.mem_iff_getElem.1 hx
    exact (hW i hi hi).1)
  have HBN := hid (show ((bud.toNat : Nat) : Int) = bud by omega)
  have HB20 := hid (show bud.toNat ≤ 20000 by omega)
  clear hW hm1 hm6
  go_enter Try.func27, Try.ntmps27
  go_wp2_with fail
  refine (ValidWorks_ok A c xs _ HA.out HK.out hn).mono ?_
  rintro e w1 ⟨rfl, hb1⟩
  have B1 := hid hb1
  have hs1 := hb1.size
  clear hb1
  rw [c1]
  go_wp2_with fail
  refine (within_ok _ _ _ _).mono ?_
  rintro e w' ⟨rfl, rfl⟩
  rw [c2]
  go_wp2_with fail
  refine (within_ok _ _ _ _).mono ?_
  rintro e w' ⟨rfl, rfl⟩
  rw [c3]
  go_wp2_with fail
  have BX := hid (below_alloc w1 (.cells #[.slice A xs.length c, .slice none 0 0, .int .i64 bud] 136))
  have HO := hid (World.ownsRow_lit (e := 136) (size := 3) (base := w1.heap.size) w1 #[.slice A xs.length c, .slice none 0 0, .int .i64 bud] 1 (Nat.le_refl _) (by unfold maxLen; omega) rfl)
  go_wp2_with fail
  go_loopw [27] (fun i wr => ∃ (k : Nat) (A2 : Option Addr) (cp : Nat) (gs : List Nat), k ≤ n ∧ i = .int .i64 (k : Int) ∧ Below w1.heap.size w1 wr ∧ BldR 136 3 (.slice A xs.length c) [.int .i64 bud] w1.heap.size k A2 cp gs wr) (fun i _ => n - (intOf i).toNat)
  case atStart => exact ⟨0, none, 0, [], Nat.zero_le _, rfl, BX.out, BldR.start HO.out⟩
  case round =>
    obtain ⟨k, A2, cp, gs, hk, rfl, hbel, hbld⟩ := hrel
    have HW := hid hbel
    have HB := hid hbld
    clear hbel hbld
    have hbw := (HB.out.1.lt w1.heap.size rfl).2
    have c1 := HB.out.1.cellAt 1 (by omega)
    simp only [List.getElem?_cons_zero, List.getElem?_cons_succ] at c1
    by_cases hkl : k < n
    · have q1 : (k : Int) < (n : Int) := by omega
      go_upto_region 8 with fail
      refine wp_region_T (fun w' => w'.cell? ⟨w1.heap.size, 1, none⟩ = some (.slice A2 k cp)) [10] (by kernel_rfl) c1 (fun hHeld => ?_)
      refine wpAnyT_takeW (i := 0) (oi := ⟨some 29, _, _, _, _, _⟩) (v := ?_) rfl (by kernel_rfl) (by kernel_rfl) (by kernel_rfl) (by kernel_rfl) (fun _ _ _ h => h) (Or.inl ⟨by rfl, ?_⟩) (by assumption) ?_
      rotate_left
      · (intro w hSw; go_simp; try with_reducible rfl)
      try simp only [Act.put, List.setIfInBounds_toArray, List.set_cons_zero, List.set_cons_succ]
      refine wpAnyT_takeW (i := 1) (oi := ⟨some 30, _, _, _, _, _⟩) (v := ?_) rfl (by kernel_rfl) (by kernel_rfl) (by kernel_rfl) (by kernel_rfl) (fun _ _ _ h => h) (Or.inl ⟨by rfl, ?_⟩) (by assumption) ?_
      rotate_left
      · (intro w hSw; go_simp; try with_reducible rfl)
      try simp only [Act.put, List.setIfInBounds_toArray, List.set_cons_zero, List.set_cons_succ]
      refine wpAnyT_takeW (i := 2) (oi := ⟨some 31, _, _, _, _, _⟩) (v := ?_) rfl (by kernel_rfl) (by kernel_rfl) (by kernel_rfl) (by kernel_rfl) (fun _ _ _ h => h) (Or.inl ⟨by rfl, ?_⟩) (by assumption) ?_
      rotate_left
      · (intro w hSw; go_simp; try with_reducible rfl)
      try simp only [Act.put, List.setIfInBounds_toArray, List.set_cons_zero, List.set_cons_succ]
      refine wpAnyT_takeW (i := 3) (oi := ⟨some 32, _, _, _, _, _⟩) (v := ?_) rfl (by kernel_rfl) (by kernel_rfl) (by kernel_rfl) (by kernel_rfl) (fun _ _ _ h => h) (Or.inl ⟨by rfl, ?_⟩) (by assumption) ?_
      rotate_left
      · (intro w hSw; go_simp; try with_reducible rfl)
      try simp only [Act.put, List.setIfInBounds_toArray, List.set_cons_zero, List.set_cons_succ]
      refine wpAnyT_take (i := 4) (oi := ⟨some 33, _, _, _, _, _⟩) (v := ?_) rfl (by kernel_rfl) (by kernel_rfl) (by kernel_rfl) (by kernel_rfl) (by kernel_rfl) (by kernel_rfl) (fun _ _ _ h => h) (Or.inl ⟨by rfl, ?_⟩) (by assumption) ?_
      rotate_left
      · (intro w hSw; (try dsimp only at hSw); go_simp; try with_reducible rfl)
      try simp only [Act.put, List.setIfInBounds_toArray, List.set_cons_zero, List.set_cons_succ]
      refine wpAnyT_ready (rs := [5]) (by kernel_rfl) (by simp) ?_
      refine AllReadyT.cons (o := ⟨some 34, _, _, _, _, _⟩) rfl (fun K hK => ?_) AllReadyT.nil
      refine step_make rfl (.const (.int .i64 40)) (.const (.int .i64 40)) 24 rfl (w1.heap.size + 1) 2 (.int .i64 0) 1 8 Try.underlying24 infoI .i64 .i64 40 rfl rfl (by decide) (by decide) (by show w1.heap.size + 1 ≤ wr.heap.size; omega) ?_
      intro w3 ho3 hg3
      have H3 := hid (show w3.ownsRow (w1.heap.size + 1) 2 1 (gV wr.drew.heap.size) 40 (iVP zeroR) by have e : iVP zeroR = (madeCells (Value.int .i64 0).cells (40 * 1)).toList := (by rw [made_one _ _ rfl]; simp [iVP, zeroR]); rw [e]; exact ho3)
      have G3 := hid hg3
      have P3 := hid (World.ownsRow.kept (w := wr.drew) (w' := w3) (show wr.drew.ownsRow (w1.heap.size + 1) 24 1 (.slice A2 k cp) k (gs.map gV) from HB.out.2.1) hg3 (by cases hv : Value.ownBlock _ with | none => exact .inl rfl | some q => exact .inr (by simp)))
      have h3l := ((H3.out).lt _ (gV_block _)).2
      have e1 : w3.cell? ⟨w1.heap.size, 1, none⟩ = some (.slice A2 k cp) := (World.cell?_of_block (w := wr.drew) (w' := w3) (a := ⟨w1.heap.size, 1, none⟩) (hg3.block _ hbw (by simp))).trans c1
      clear ho3 hg3 c1
      refine hK.out _ _ (e1) (fun hHeld => ?_)
      clear hK K
      try simp only [Act.put, List.setIfInBounds_toArray, List.set_cons_zero, List.set_cons_succ]
      refine wpAnyT_ready (rs := [6]) (by kernel_rfl) (by simp) ?_
      refine AllReadyT.cons (o := ⟨some 35, _, _, _, _, _⟩) rfl (fun K hK => ?_) AllReadyT.nil
      go_simp
      refine hK.out _ _ (cell?_alloc_old _ e1) (fun hHeld => ?_)
      clear hK K
      try simp only [Act.put, List.setIfInBounds_toArray, List.set_cons_zero, List.set_cons_succ]
      refine wpAnyT_ready (rs := [7]) (by kernel_rfl) (by simp) ?_
      refine AllReadyT.cons (o := ⟨some 36, _, _, _, _, _⟩) rfl (fun K hK => ?_) AllReadyT.nil
      refine step_appP (wr := w3) rfl (.tmp 33) (.tmp 35) 44 rfl (w1.heap.size + 1) 24 (.slice none 0 0) 1 24 Try.underlying44 infoSL rfl (by decide) (.slice A2 k cp) k (gs.map gV) (by first | rfl | simp [Act.eval]) P3.out #[gV wr.drew.heap.size] 1 1 (by first | rfl | simp [Act.eval]) rfl (by simp [Value.oneCell', gV]) (by omega) (by show w1.heap.size + 1 ≤ w3.heap.size; have h0 : wr.drew.heap.size = wr.heap.size := rfl; omega) ?_
      intro v9 w9 hown9 hgr9 hb9
      obtain ⟨A9, c9, rfl⟩ := own_sliceV hown9
      have N9 := hid (HB.out.drew.next H3.out G3.out hown9 hgr9 hb9)
      have e9 := N9.out.1
      have i9 := N9.out.2.1
      clear e1 hown9 hgr9 hb9
      refine hK.out _ _ (e9) (fun hHeld => ?_)
      clear hK K
      try simp only [Act.put, List.setIfInBounds_toArray, List.set_cons_zero, List.set_cons_succ]
      refine wpAnyT_takeW (i := 8) (oi := ⟨some 37, _, _, _, _, _⟩) (v := ?_) rfl (by kernel_rfl) (by kernel_rfl) (by kernel_rfl) (by kernel_rfl) (fun _ _ _ h => h) (Or.inl ⟨by rfl, ?_⟩) (by assumption) ?_
      rotate_left
      · (intro w hSw; go_simp; try with_reducible rfl)
      try simp only [Act.put, List.setIfInBounds_toArray, List.set_cons_zero, List.set_cons_succ]
      refine wpAnyT_takeW (i := 9) (oi := ⟨some 38, _, _, _, _, _⟩) (v := ?_) rfl (by kernel_rfl) (by kernel_rfl) (by kernel_rfl) (by kernel_rfl) (fun _ _ _ h => h) (Or.inl ⟨by rfl, ?_⟩) (by assumption) ?_
      rotate_left
      · (intro w hSw; go_simp; try with_reducible rfl)
      try simp only [Act.put, List.setIfInBounds_toArray, List.set_cons_zero, List.set_cons_succ]
      refine wpAnyT_ready (rs := [10]) (by kernel_rfl) (by simp) ?_
      refine AllReadyT.consB (o := ⟨none, _, _, _, _, _⟩) rfl (by kernel_rfl) (fun K hK => ?_) AllReadyT.nil
      go_simp
      refine hK.out _ _ ?_
      clear hK K
      try simp only [Act.put, List.setIfInBounds_toArray, List.set_cons_zero, List.set_cons_succ]
      refine wpAnyT_done (by kernel_rfl) ?_ _
      obtain ⟨-, -, N10, B10⟩ := N9.out
      have HN := hid N10
      have HW2 := hid (HW.out.drew.trans (B10 : Below w1.heap.size wr.drew _))
      clear N10 B10
      go_wp2_with fail
      go_roundw
      case rel => exact ⟨k + 1, A9, c9, _, by omega, by go_num, HW2.out, HN.out⟩
      case measure => simp [intOf]; omega
    · have hk2 : k = n := by omega
      subst hk2
      have q1 : ¬ (k : Int) < (k : Int) := by omega
      obtain ⟨p, rfl, hpl⟩ := HB.out.done hn1
      have HP := hid hpl
      clear hpl q1
      go_wp2_with fail
      refine (plcSearch xs A c w1.heap.size p cp k wr.heap.size gs w1 (HA.out.below B1.out) rfl HX.out hl8 hn6 xs.length 0 (plan0 k) bud.toNat _ (by omega) List.length_replicate HB20.out (Nat.le_refl _) HW.out (show PlaS w1.heap.size p cp k (.slice A xs.length c) ((bud.toNat : Nat) : Int) wr by rw [HBN.out]; exact HB.out.1) HP.out).mono ?_
      rintro e w4 ⟨⟨hb4, -⟩, hr⟩
      have B4 := hid (below_up B1.out hs1 hb4)
      have hbl4 := hb4.size
      clear hb4 c1
      cases hq : plcS xs xs.length 0 (plan0 k) bud.toNat with
      | full =>
        rw [hq] at hr
        subst hr
        have HR := hid (show fPlc k xs bud = ([], 5) by rw [HF.out]; unfold fPlcT; rw [hq])
        clear hq
        go_wp2_with fail
        go_ret2
        exact RetPl.nil HR.out B4.out
      | fail l =>
        rw [hq] at hr
        obtain ⟨rfl, -⟩ := hr
        have HR := hid (show fPlc k xs bud = ([], 3) by rw [HF.out]; unfold fPlcT; rw [hq])
        clear hq
        go_wp2_with fail
        go_ret2
        exact RetPl.nil HR.out B4.out
      | solved p2 =>
        rw [hq] at hr
        obtain ⟨rfl, left, hst, hpl⟩ := hr
        have HR := hid (show fPlc k xs bud = (p2, 0) by rw [HF.out]; unfold fPlcT; rw [hq])
        have HL := hid ((plcS_len xs.length 0 (plan0 k) bud.toNat p2 (fun r hr => by rw [List.eq_of_mem_replicate hr]; exact List.length_replicate) hq).1.trans List.length_replicate)
        have HP4 := hid hpl
        have c4 := World.ownsRow.cellAt hst 1 (by omega)
        simp only [List.getElem?_cons_zero, List.getElem?_cons_succ] at c4
        have h4l := hpl.lt
        clear hq hst hpl
        go_wp2_with fail
        go_ret2
        exact RetPl.own HR.out HL.out (HP4.out.here.wide (by omega) (Nat.le_refl _)) B4.out

set_option maxHeartbeats 3200000 in
set_option maxRecDepth 100000 in
theorem l18Place_ok (n : Nat) (A : Option Addr) (c : Nat) (xs : List DWork) (bud : Int) (w1 : World) (hA : RowsAt w1 4 A (xs.map DWork.cells)) (hX : ∀ x ∈ xs, workD x = true) (hl8 : xs.length ≤ 8) (hn1 : 1 ≤ n) (hn6 : n ≤ 6) (hbd : 1 ≤ bud ∧ bud ≤ 20000) :
    Calls Try.prog 89 #[.int .i64 n, .slice A xs.length c, .int .i64 bud] w1 (RetPl w1 (fPlcT n xs bud)) := by
  have HA := hid hA
  have HX := hid hX
  have HBN := hid (show ((bud.toNat : Nat) : Int) = bud by omega)
  have B1 := hid (Below.refl w1.heap.size w1)
  clear hA hX
  go_enter Try.func89, Try.ntmps89
  have BX := hid (below_alloc w1 (.cells #[.slice A xs.length c, .slice none 0 0, .int .i64 0, .int .i64 bud, .bool false] 196))
  have HO := hid (World.ownsRow_lit (e := 196) (size := 5) (base := w1.heap.size) w1 #[.slice A xs.length c, .slice none 0 0, .int .i64 0, .int .i64 bud, .bool false] 1 (Nat.le_refl _) (by unfold maxLen; omega) rfl)
  go_wp2_with fail
  go_loopw [9] (fun i wr => ∃ (k : Nat) (A2 : Option Addr) (cp : Nat) (gs : List Nat), k ≤ n ∧ i = .int .i64 (k : Int) ∧ Below w1.heap.size w1 wr ∧ BldR 196 5 (.slice A xs.length c) [.int .i64 0, .int .i64 bud, .bool false] w1.heap.size k A2 cp gs wr) (fun i _ => n - (intOf i).toNat)
  case atStart => exact ⟨0, none, 0, [], Nat.zero_le _, rfl, BX.out, BldR.start HO.out⟩
  case round =>
    obtain ⟨k, A2, cp, gs, hk, rfl, hbel, hbld⟩ := hrel
    have HW := hid hbel
    have HB := hid hbld
    clear hbel hbld
    have hbw := (HB.out.1.lt w1.heap.size rfl).2
    have c1 := HB.out.1.cellAt 1 (by omega)
    simp only [List.getElem?_cons_zero, List.getElem?_cons_succ] at c1
    by_cases hkl : k < n
    · have q1 : (k : Int) < (n : Int) := by omega
      go_upto_region 5 with fail
      refine wp_region_T (fun w' => w'.cell? ⟨w1.heap.size, 1, none⟩ = some (.slice A2 k cp)) [10] (by kernel_rfl) c1 (fun hHeld => ?_)
      refine wpAnyT_takeW (i := 0) (oi := ⟨some 19, _, _, _, _, _⟩) (v := ?_) rfl (by kernel_rfl) (by kernel_rfl) (by kernel_rfl) (by kernel_rfl) (fun _ _ _ h => h) (Or.inl ⟨by rfl, ?_⟩) (by assumption) ?_
      rotate_left
      · (intro w hSw; go_simp; try with_reducible rfl)
      try simp only [Act.put, List.setIfInBounds_toArray, List.set_cons_zero, List.set_cons_succ]
      refine wpAnyT_takeW (i := 1) (oi := ⟨some 20, _, _, _, _, _⟩) (v := ?_) rfl (by kernel_rfl) (by kernel_rfl) (by kernel_rfl) (by kernel_rfl) (fun _ _ _ h => h) (Or.inl ⟨by rfl, ?_⟩) (by assumption) ?_
      rotate_left
      · (intro w hSw; go_simp; try with_reducible rfl)
      try simp only [Act.put, List.setIfInBounds_toArray, List.set_cons_zero, List.set_cons_succ]
      refine wpAnyT_takeW (i := 2) (oi := ⟨some 21, _, _, _, _, _⟩) (v := ?_) rfl (by kernel_rfl) (by kernel_rfl) (by kernel_rfl) (by kernel_rfl) (fun _ _ _ h => h) (Or.inl ⟨by rfl, ?_⟩) (by assumption) ?_
      rotate_left
      · (intro w hSw; go_simp; try with_reducible rfl)
      try simp only [Act.put, List.setIfInBounds_toArray, List.set_cons_zero, List.set_cons_succ]
      refine wpAnyT_takeW (i := 3) (oi := ⟨some 22, _, _, _, _, _⟩) (v := ?_) rfl (by kernel_rfl) (by kernel_rfl) (by kernel_rfl) (by kernel_rfl) (fun _ _ _ h => h) (Or.inl ⟨by rfl, ?_⟩) (by assumption) ?_
      rotate_left
      · (intro w hSw; go_simp; try with_reducible rfl)
      try simp only [Act.put, List.setIfInBounds_toArray, List.set_cons_zero, List.set_cons_succ]
      refine wpAnyT_take (i := 4) (oi := ⟨some 23, _, _, _, _, _⟩) (v := ?_) rfl (by kernel_rfl) (by kernel_rfl) (by kernel_rfl) (by kernel_rfl) (by kernel_rfl) (by kernel_rfl) (fun _ _ _ h => h) (Or.inl ⟨by rfl, ?_⟩) (by assumption) ?_
      rotate_left
      · (intro w hSw; (try dsimp only at hSw); go_simp; try with_reducible rfl)
      try simp only [Act.put, List.setIfInBounds_toArray, List.set_cons_zero, List.set_cons_succ]
      refine wpAnyT_ready (rs := [5]) (by kernel_rfl) (by simp) ?_
      refine AllReadyT.cons (o := ⟨some 24, _, _, _, _, _⟩) rfl (fun K hK => ?_) AllReadyT.nil
      refine step_make rfl (.const (.int .i64 40)) (.const (.int .i64 40)) 24 rfl (w1.heap.size + 1) 2 (.int .i64 0) 1 8 Try.underlying24 infoI .i64 .i64 40 rfl rfl (by decide) (by decide) (by show w1.heap.size + 1 ≤ wr.heap.size; omega) ?_
      intro w3 ho3 hg3
      have H3 := hid (show w3.ownsRow (w1.heap.size + 1) 2 1 (gV wr.drew.heap.size) 40 (iVP zeroR) by have e : iVP zeroR = (madeCells (Value.int .i64 0).cells (40 * 1)).toList := (by rw [made_one _ _ rfl]; simp [iVP, zeroR]); rw [e]; exact ho3)
      have G3 := hid hg3
      have P3 := hid (World.ownsRow.kept (w := wr.drew) (w' := w3) (show wr.drew.ownsRow (w1.heap.size + 1) 24 1 (.slice A2 k cp) k (gs.map gV) from HB.out.2.1) hg3 (by cases hv : Value.ownBlock _ with | none => exact .inl rfl | some q => exact .inr (by simp)))
      have h3l := ((H3.out).lt _ (gV_block _)).2
      have e1 : w3.cell? ⟨w1.heap.size, 1, none⟩ = some (.slice A2 k cp) := (World.cell?_of_block (w := wr.drew) (w' := w3) (a := ⟨w1.heap.size, 1, none⟩) (hg3.block _ hbw (by simp))).trans c1
      clear ho3 hg3 c1
      refine hK.out _ _ (e1) (fun hHeld => ?_)
      clear hK K
      try simp only [Act.put, List.setIfInBounds_toArray, List.set_cons_zero, List.set_cons_succ]
      refine wpAnyT_ready (rs := [6]) (by kernel_rfl) (by simp) ?_
      refine AllReadyT.cons (o := ⟨some 25, _, _, _, _, _⟩) rfl (fun K hK => ?_) AllReadyT.nil
      go_simp
      refine hK.out _ _ (cell?_alloc_old _ e1) (fun hHeld => ?_)
      clear hK K
      try simp only [Act.put, List.setIfInBounds_toArray, List.set_cons_zero, List.set_cons_succ]
      refine wpAnyT_ready (rs := [7]) (by kernel_rfl) (by simp) ?_
      refine AllReadyT.cons (o := ⟨some 26, _, _, _, _, _⟩) rfl (fun K hK => ?_) AllReadyT.nil
      refine step_appP (wr := w3) rfl (.tmp 23) (.tmp 25) 44 rfl (w1.heap.size + 1) 24 (.slice none 0 0) 1 24 Try.underlying44 infoSL rfl (by decide) (.slice A2 k cp) k (gs.map gV) (by first | rfl | simp [Act.eval]) P3.out #[gV wr.drew.heap.size] 1 1 (by first | rfl | simp [Act.eval]) rfl (by simp [Value.oneCell', gV]) (by omega) (by show w1.heap.size + 1 ≤ w3.heap.size; have h0 : wr.drew.heap.size = wr.heap.size := rfl; omega) ?_
      intro v9 w9 hown9 hgr9 hb9
      obtain ⟨A9, c9, rfl⟩ := own_sliceV hown9
      have N9 := hid (HB.out.drew.next H3.out G3.out hown9 hgr9 hb9)
      have e9 := N9.out.1
      have i9 := N9.out.2.1
      clear e1 hown9 hgr9 hb9
      refine hK.out _ _ (e9) (fun hHeld => ?_)
      clear hK K
      try simp only [Act.put, List.setIfInBounds_toArray, List.set_cons_zero, List.set_cons_succ]
      refine wpAnyT_takeW (i := 8) (oi := ⟨some 27, _, _, _, _, _⟩) (v := ?_) rfl (by kernel_rfl) (by kernel_rfl) (by kernel_rfl) (by kernel_rfl) (fun _ _ _ h => h) (Or.inl ⟨by rfl, ?_⟩) (by assumption) ?_
      rotate_left
      · (intro w hSw; go_simp; try with_reducible rfl)
      try simp only [Act.put, List.setIfInBounds_toArray, List.set_cons_zero, List.set_cons_succ]
      refine wpAnyT_takeW (i := 9) (oi := ⟨some 28, _, _, _, _, _⟩) (v := ?_) rfl (by kernel_rfl) (by kernel_rfl) (by kernel_rfl) (by kernel_rfl) (fun _ _ _ h => h) (Or.inl ⟨by rfl, ?_⟩) (by assumption) ?_
      rotate_left
      · (intro w hSw; go_simp; try with_reducible rfl)
      try simp only [Act.put, List.setIfInBounds_toArray, List.set_cons_zero, List.set_cons_succ]
      refine wpAnyT_ready (rs := [10]) (by kernel_rfl) (by simp) ?_
      refine AllReadyT.consB (o := ⟨none, _, _, _, _, _⟩) rfl (by kernel_rfl) (fun K hK => ?_) AllReadyT.nil
      go_simp
      refine hK.out _ _ ?_
      clear hK K
      try simp only [Act.put, List.setIfInBounds_toArray, List.set_cons_zero, List.set_cons_succ]
      refine wpAnyT_done (by kernel_rfl) ?_ _
      obtain ⟨-, -, N10, B10⟩ := N9.out
      have HN := hid N10
      have HW2 := hid (HW.out.drew.trans (B10 : Below w1.heap.size wr.drew _))
      clear N10 B10
      go_wp2_with fail
      go_roundw
      case rel => exact ⟨k + 1, A9, c9, _, by omega, by go_num, HW2.out, HN.out⟩
      case measure => simp [intOf]; omega
    · have hk2 : k = n := by omega
      subst hk2
      have q1 : ¬ (k : Int) < (k : Int) := by omega
      obtain ⟨p, rfl, hpl⟩ := HB.out.done hn1
      have HP := hid hpl
      clear hpl q1
      go_wp2_with fail
      refine (plrSearch xs A c w1.heap.size p cp k wr.heap.size gs w1 (HA.out) rfl HX.out hl8 hn6 bud hbd.2 xs.length 0 (plan0 k) bud.toNat _ (by omega) List.length_replicate (by rw [HBN.out]; exact Int.le_refl _) HW.out (show PlrS w1.heap.size p cp k (.slice A xs.length c) (bud - ((bud.toNat : Nat) : Int)) bud false wr by rw [HBN.out, Int.sub_self]; exact HB.out.1) HP.out).mono ?_
      rintro e w4 ⟨hb4, hr⟩
      have B4 := hid hb4
      have hbl4 := hb4.size
      clear hb4 c1
      cases hq : plcS xs xs.length 0 (plan0 k) bud.toNat with
      | full =>
        rw [hq] at hr
        obtain ⟨rfl, hst, -⟩ := hr
        have HR := hid (show fPlcT k xs bud = ([], 5) by unfold fPlcT; rw [hq])
        have c4 := World.ownsRow.cellAt hst 4 (by omega)
        simp only [List.getElem?_cons_zero, List.getElem?_cons_succ] at c4
        clear hq hst
        go_wp2_with fail
        go_ret2
        exact RetPl.nil HR.out B4.out
      | fail l =>
        rw [hq] at hr
        obtain ⟨rfl, -, hst, -⟩ := hr
        have HR := hid (show fPlcT k xs bud = ([], 3) by unfold fPlcT; rw [hq])
        have c4 := World.ownsRow.cellAt hst 4 (by omega)
        simp only [List.getElem?_cons_zero, List.getElem?_cons_succ] at c4
        clear hq hst
        go_wp2_with fail
        go_ret2
        exact RetPl.nil HR.out B4.out
      | solved p2 =>
        rw [hq] at hr
        obtain ⟨rfl, nodes, full, hst, hpl⟩ := hr
        have HR := hid (show fPlcT k xs bud = (p2, 0) by unfold fPlcT; rw [hq])
        have HL := hid ((plcS_len xs.length 0 (plan0 k) bud.toNat p2 (fun r hr => by rw [List.eq_of_mem_replicate hr]; exact List.length_replicate) hq).1.trans List.length_replicate)
        have HP4 := hid hpl
        have c4 := World.ownsRow.cellAt hst 1 (by omega)
        simp only [List.getElem?_cons_zero, List.getElem?_cons_succ] at c4
        clear hq hst hpl
        go_wp2_with fail
        go_ret2
        exact RetPl.own HR.out HL.out (HP4.out.here.wide (Nat.le_succ _) (Nat.le_refl _)) B4.out

set_option maxHeartbeats 3200000 in
set_option maxRecDepth 100000 in
theorem specPlc_ok (m : Int) (A : Option Addr) (c : Nat) (xs : List DWork) (bud : Int) (w : World) (hA : RowsAt w 4 A (xs.map DWork.cells)) (hok : ∀ x ∈ xs, x.ok) (hn : xs.length ≤ 1048576) :
    Calls Try.prog 25 #[.int .i64 m, .slice A xs.length c, .int .i64 bud] w (RetPl w (fPlc m xs bud)) := by
  have HA := hid hA
  have HK := hid hok
  clear hA hok
  cases c1 : worksB xs
  · have HF := hid (show fPlc m xs bud = ([], 1) by unfold fPlc; rw [if_pos c1])
    go_enter Try.func25, Try.ntmps25
    go_wp2_with fail
    refine (l18Ok_ok A c xs _ HA.out HK.out hn).mono ?_
    rintro e w1 ⟨rfl, hb1⟩
    have B1 := hid hb1
    have hs1 := hb1.size
    clear hb1
    rw [c1]
    go_wp2_with fail
    go_ret2
    exact RetPl.nil HF.out B1.out
  cases c2 : inB m 1 6
  · have HF := hid (show fPlc m xs bud = ([], 2) by unfold fPlc; rw [if_neg (by rw [c1]; simp), if_pos (.inl c2)])
    go_enter Try.func25, Try.ntmps25
    go_wp2_with fail
    refine (l18Ok_ok A c xs _ HA.out HK.out hn).mono ?_
    rintro e w1 ⟨rfl, hb1⟩
    have B1 := hid hb1
    have hs1 := hb1.size
    clear hb1
    rw [c1]
    go_wp2_with fail
    refine (l00In_ok _ _ _ _).mono ?_
    rintro e w' ⟨rfl, rfl⟩
    rw [c2]
    go_wp2_with fail
    go_ret2
    exact RetPl.nil HF.out B1.out
  cases c3 : inB bud 1 20000
  · have HF := hid (show fPlc m xs bud = ([], 2) by unfold fPlc; rw [if_neg (by rw [c1]; simp), if_pos (.inr c3)])
    go_enter Try.func25, Try.ntmps25
    go_wp2_with fail
    refine (l18Ok_ok A c xs _ HA.out HK.out hn).mono ?_
    rintro e w1 ⟨rfl, hb1⟩
    have B1 := hid hb1
    have hs1 := hb1.size
    clear hb1
    rw [c1]
    go_wp2_with fail
    refine (l00In_ok _ _ _ _).mono ?_
    rintro e w' ⟨rfl, rfl⟩
    rw [c2]
    go_wp2_with fail
    refine (l00In_ok _ _ _ _).mono ?_
    rintro e w' ⟨rfl, rfl⟩
    rw [c3]
    go_wp2_with fail
    go_ret2
    exact RetPl.nil HF.out B1.out
  have HF := hid (show fPlc m xs bud = fPlcT m.toNat xs bud by unfold fPlc; rw [if_neg (by rw [c1]; simp), if_neg (by rw [c2, c3]; simp)])
  have hbd := inB_iff.1 c3
  obtain ⟨hm1, hm6⟩ := inB_iff.1 c2
  obtain ⟨n, hne⟩ : ∃ n : Nat, m = (n : Int) := ⟨m.toNat, by omega⟩
  subst hne
  have hn1 : 1 ≤ n := by omega
  have hn6 : n ≤ 6 := by omega
  rw [Int.toNat_natCast] at HF
  obtain ⟨hW, hl8⟩ := worksB_iff.1 c1
  have HX := hid (show ∀ x ∈ xs, workD x = true from fun x hx => by
    obtain ⟨i, hi, rfl⟩ := List.mem_iff_getElem.1 hx
    exact (hW i hi hi).1)
  have HBN := hid (show ((bud.toNat : Nat) : Int) = bud by omega)
  have HB20 := hid (show bud.toNat ≤ 20000 by omega)
  clear hW hm1 hm6
  go_enter Try.func25, Try.ntmps25
  go_wp2_with fail
  refine (l18Ok_ok A c xs _ HA.out HK.out hn).mono ?_
  rintro e w1 ⟨rfl, hb1⟩
  have B1 := hid hb1
  have hs1 := hb1.size
  clear hb1
  rw [c1]
  go_wp2_with fail
  refine (l00In_ok _ _ _ _).mono ?_
  rintro e w' ⟨rfl, rfl⟩
  rw [c2]
  go_wp2_with fail
  refine (l00In_ok _ _ _ _).mono ?_
  rintro e w' ⟨rfl, rfl⟩
  rw [c3]
  go_wp2_with fail
  refine (l18Place_ok n A c xs bud w1 (HA.out.below B1.out) HX.out hl8 hn1 hn6 hbd).mono ?_
  rintro e w4 ⟨A', c', rfl, hp, hb⟩
  have HP := hid hp
  have B4 := hid (below_up B1.out hs1 hb)
  clear hp hb
  rw [← HF.out] at *
  go_wp2_with fail
  go_ret2
  exact ⟨A', c', rfl, HP.out.wideB hs1, B4.out⟩

end Go.Proofs.Ytdbjbkdcmhekfaa
