/- slices.SortStableFunc at impl.Visit: symMerge, the whole sort. -/
import Derived.Test.YtjeklbhdngkngaaStabV
import Derived.Deep.DeepCutAuto
namespace Go.Proofs.Ytjeklbhdngkngaa
open Go.RowKit
set_option linter.unusedVariables false

def SymPostV (key : DVisit → Int) (B g cap n : Nat) (w0 : World) (P X Y Q : List DVisit) (e : Ending) (w' : World) : Prop := e = .returned (.tuple #[]) ∧ ∃ Z, (UpK key Z ∧ SameK key (X ++ Y) Z) ∧ Chg g (g + 1) w0 w' ∧ DatAt 76 4 DVisit.cells B g cap n (P ++ (Z ++ Q)) w'

set_option maxHeartbeats 1600000 in
set_option maxRecDepth 100000 in
theorem symV_left (key : DVisit → Int) (D : DVisit → Prop) (B g cap n : Nat) (w0 : World) (hC : CmpV key D g w0) (hg : g < w0.heap.size) (hn : n ≤ 1000) (x : DVisit) (P Y Q : List DVisit) (a m b : Nat) (ha : P.length = a) (hm : a + 1 = m) (hb : m + Y.length = b) (hY : UpK key Y) (hD : ∀ z ∈ x :: Y, D z) (w : World) (hch : Chg g (g + 1) w0 w) (hd : DatAt 76 4 DVisit.cells B g cap n (P ++ ([x] ++ (Y ++ Q))) w) :
    Calls Try.prog 163 #[.slice (some ⟨g, 0, none⟩) n cap, .int .i64 (a : Int), .int .i64 (m : Int), .int .i64 (b : Int), .func (.func 98) #[] #[]] w (SymPostV key B g cap n w0 P [x] Y Q) := by
  have HC := hid hC
  have HD := hid hD
  have HCH := hid hch
  have HDA := hid hd
  have hlen := hd.length hencV (by omega)
  simp only [List.length_append, List.length_singleton] at hlen
  have hbn : b ≤ n := by omega
  have HA := hid ha
  have HM := hid hm
  have HB := hid hb
  have HY := hid hY
  clear hC hD hch hd hlen ha hm hb hY
  have s1 : (m : Int) - (a : Int) = 1 := by have := HM.out; omega
  have q00 : (0 : Int) ≤ (a : Int) := by omega
  have q01 : (a : Int) < (n : Int) := by have := HM.out; have := HB.out; omega
  go_enter Try.func163, Try.ntmps163
  go_wp2_with fail
  go_loopw [10, 11] (fun vi vj wr => ∃ (i j : Nat), (vi = .int .i64 (i : Int) ∧ vj = .int .i64 (j : Int)) ∧ (m ≤ i ∧ i ≤ j ∧ j ≤ b) ∧ Hid ((i = m ∨ ∃ h : i - 1 - m < Y.length, key Y[i - 1 - m] < key x) ∧ (j = b ∨ ∃ h : j - m < Y.length, key x ≤ key Y[j - m])) ∧ Chg g (g + 1) w0 wr ∧ DatAt 76 4 DVisit.cells B g cap n (P ++ ([x] ++ (Y ++ Q))) wr) (fun vi vj _ => (intOf vj).toNat - (intOf vi).toNat)
  case atStart => exact ⟨m, b, ⟨rfl, rfl⟩, ⟨Nat.le_refl _, by have := HB.out; omega, Nat.le_refl _⟩, ⟨.inl rfl, .inl rfl⟩, HCH.out, HDA.out⟩
  case round =>
    clear HCH HDA
    obtain ⟨i, j, ⟨rfl, rfl⟩, ⟨hi, hij, hj⟩, HZ, hch, hd⟩ := hrel
    have HCH := hid hch
    have HDA := hid hd
    have hgl : g < wr.heap.size := Nat.lt_of_lt_of_le hg hch.size
    clear hch hd
    by_cases hlt : i < j
    · obtain ⟨h, hh⟩ : ∃ h, h = (i + j) / 2 := ⟨_, rfl⟩
      have h1 : i ≤ h := by omega
      have h2 : h < j := by omega
      have hhm : h - m < Y.length := by have := HB.out; omega
      obtain ⟨y, hy⟩ : ∃ y, y = Y[h - m] := ⟨_, rfl⟩
      have q0 : (i : Int) < (j : Int) := by omega
      have w1 : IntKind.u64.wrap ((i : Int) + (j : Int)) = (i : Int) + (j : Int) := IntWalk.u64_in _ (by omega)
      have w2 : ((i : Int) + (j : Int)) / 2 = (h : Int) := by omega
      have q1 : (0 : Int) ≤ (h : Int) := by omega
      have q2 : (h : Int) < (n : Int) := by omega
      have hyd : D y := HD.out y (by rw [hy]; exact List.mem_cons_of_mem _ (List.getElem_mem hhm))
      have hxd : D x := HD.out x (by simp)
      have ex : (P ++ ([x] ++ (Y ++ Q)))[a]? = some x := at_mid HA.out.symm
      have ey : (P ++ ([x] ++ (Y ++ Q)))[h]? = some y := by
        have e1 : h = P.length + (1 + (h - m)) := by have := HA.out; have := HM.out; omega
        rw [e1, List.getElem?_append_right (by omega), Nat.add_sub_cancel_left, List.getElem?_append_right (by simp), show 1 + (h - m) - [x].length = h - m by simp, List.getElem?_append_left hhm, List.getElem?_eq_getElem hhm, hy]
      have a0 : wr.cell? ⟨g, h * 4, none⟩ = some (.int .i64 y.fDay) := DatAt.cell HDA.out hencV (f := 0) ey rfl
      have a1 : wr.cell? ⟨g, h * 4 + 1, none⟩ = some (.string y.fWho) := DatAt.cell HDA.out hencV (f := 1) ey rfl
      have a2 : wr.cell? ⟨g, h * 4 + 2, none⟩ = some (.int .i64 y.fKind) := DatAt.cell HDA.out hencV (f := 2) ey rfl
      have a3 : wr.cell? ⟨g, h * 4 + 3, none⟩ = some (.int .i64 y.fAmount) := DatAt.cell HDA.out hencV (f := 3) ey rfl
      have b0 : wr.cell? ⟨g, a * 4, none⟩ = some (.int .i64 x.fDay) := DatAt.cell HDA.out hencV (f := 0) ex rfl
      have b1 : wr.cell? ⟨g, a * 4 + 1, none⟩ = some (.string x.fWho) := DatAt.cell HDA.out hencV (f := 1) ex rfl
      have b2 : wr.cell? ⟨g, a * 4 + 2, none⟩ = some (.int .i64 x.fKind) := DatAt.cell HDA.out hencV (f := 2) ex rfl
      have b3 : wr.cell? ⟨g, a * 4 + 3, none⟩ = some (.int .i64 x.fAmount) := DatAt.cell HDA.out hencV (f := 3) ex rfl
      have HHH := hid hh
      have HYE := hid hy
      clear ex ey hh hy
      by_cases hk : key y < key x
      · have hk2 : key y - key x < 0 := by omega
        have HZ2 := hid (show (h + 1 = m ∨ ∃ h9 : h + 1 - 1 - m < Y.length, key Y[h + 1 - 1 - m] < key x) ∧ (j = b ∨ ∃ h : j - m < Y.length, key x ≤ key Y[j - m]) from ⟨.inr ⟨by simpa using hhm, by simpa [← HYE.out] using hk⟩, HZ.out.2⟩)
        clear hk
        go_wp2_with fail
        refine wp_region_held_drew (S := (fun w' => (True ∧ Below wr.heap.size wr w') ∧ w'.cell? ⟨g, h * 4, none⟩ = some (.int .i64 y.fDay) ∧ w'.cell? ⟨g, h * 4 + 1, none⟩ = some (.string y.fWho) ∧ w'.cell? ⟨g, h * 4 + 2, none⟩ = some (.int .i64 y.fKind) ∧ w'.cell? ⟨g, h * 4 + 3, none⟩ = some (.int .i64 y.fAmount) ∧ w'.cell? ⟨g, a * 4, none⟩ = some (.int .i64 x.fDay) ∧ w'.cell? ⟨g, a * 4 + 1, none⟩ = some (.string x.fWho) ∧ w'.cell? ⟨g, a * 4 + 2, none⟩ = some (.int .i64 x.fKind) ∧ w'.cell? ⟨g, a * 4 + 3, none⟩ = some (.int .i64 x.fAmount))) (by kernel_rfl) ⟨⟨trivial, (Below.refl _ _).drew⟩, a0, a1, a2, a3, b0, b1, b2, b3⟩ (fun hHeld => ?_)
        refine wpAnyH_take (i := 0) (oi := ⟨some 40, _, _, _, _, _⟩) (v := ?_) rfl (by kernel_rfl) (by kernel_rfl) (by kernel_rfl) (fun _ _ _ h => h) (Or.inl ⟨by rfl, ?_⟩) (by assumption) ?_
        rotate_left
        · (intro w hSw; (try dsimp only at hSw); go_simp; try with_reducible rfl)
        try simp only [Act.put, List.setIfInBounds_toArray, List.set_cons_zero, List.set_cons_succ]
        refine wpAnyH_take (i := 1) (oi := ⟨some 41, _, _, _, _, _⟩) (v := ?_) rfl (by kernel_rfl) (by kernel_rfl) (by kernel_rfl) (fun _ _ _ h => h) (Or.inl ⟨by rfl, ?_⟩) (by assumption) ?_
        rotate_left
        · (intro w hSw; (try dsimp only at hSw); go_simp; try with_reducible rfl)
        try simp only [Act.put, List.setIfInBounds_toArray, List.set_cons_zero, List.set_cons_succ]
        refine wpAnyH_take (i := 2) (oi := ⟨some 42, _, _, _, _, _⟩) (v := ?_) rfl (by kernel_rfl) (by kernel_rfl) (by kernel_rfl) (fun _ _ _ h => h) (Or.inl ⟨by rfl, ?_⟩) (by assumption) ?_
        rotate_left
        · (intro w hSw; (try dsimp only at hSw); go_simp; try with_reducible rfl)
        try simp only [Act.put, List.setIfInBounds_toArray, List.set_cons_zero, List.set_cons_succ]
        refine wpAnyH_take (i := 3) (oi := ⟨some 43, _, _, _, _, _⟩) (v := ?_) rfl (by kernel_rfl) (by kernel_rfl) (by kernel_rfl) (fun _ _ _ h => h) (Or.inl ⟨by rfl, ?_⟩) (by assumption) ?_
        rotate_left
        · (intro w hSw; (try dsimp only at hSw); go_simp; try with_reducible rfl)
        try simp only [Act.put, List.setIfInBounds_toArray, List.set_cons_zero, List.set_cons_succ]
        refine wpAnyH_take (i := 4) (oi := ⟨some 44, _, _, _, _, _⟩) (v := ?_) rfl (by kernel_rfl) (by kernel_rfl) (by kernel_rfl) (fun _ _ _ h => h) (Or.inl ⟨by rfl, ?_⟩) (by assumption) ?_
        rotate_left
        · (intro w hSw; (try dsimp only at hSw); go_simp; try with_reducible rfl)
        try simp only [Act.put, List.setIfInBounds_toArray, List.set_cons_zero, List.set_cons_succ]
        refine wpAnyH_take (i := 5) (oi := ⟨some 45, _, _, _, _, _⟩) (v := ?_) rfl (by kernel_rfl) (by kernel_rfl) (by kernel_rfl) (fun _ _ _ h => h) (Or.inl ⟨by rfl, ?_⟩) (by assumption) ?_
        rotate_left
        · (intro w hSw; (try dsimp only at hSw); go_simp; try with_reducible rfl)
        try simp only [Act.put, List.setIfInBounds_toArray, List.set_cons_zero, List.set_cons_succ]
        refine wpAnyH_take (i := 6) (oi := ⟨some 46, _, _, _, _, _⟩) (v := ?_) rfl (by kernel_rfl) (by kernel_rfl) (by kernel_rfl) (fun _ _ _ h => h) (Or.inl ⟨by rfl, ?_⟩) (by assumption) ?_
        rotate_left
        · (intro w hSw; (try dsimp only at hSw); go_simp; try with_reducible rfl)
        try simp only [Act.put, List.setIfInBounds_toArray, List.set_cons_zero, List.set_cons_succ]
        refine wpAnyH_take (i := 7) (oi := ⟨some 47, _, _, _, _, _⟩) (v := ?_) rfl (by kernel_rfl) (by kernel_rfl) (by kernel_rfl) (fun _ _ _ h => h) (Or.inl ⟨by rfl, ?_⟩) (by assumption) ?_
        rotate_left
        · (intro w hSw; (try dsimp only at hSw); go_simp; try with_reducible rfl)
        try simp only [Act.put, List.setIfInBounds_toArray, List.set_cons_zero, List.set_cons_succ]
        refine wpAnyH_take (i := 8) (oi := ⟨some 48, _, _, _, _, _⟩) (v := ?_) rfl (by kernel_rfl) (by kernel_rfl) (by kernel_rfl) (fun _ _ _ h => h) (Or.inl ⟨by rfl, ?_⟩) (by assumption) ?_
        rotate_left
        · (intro w hSw; (try dsimp only at hSw); go_simp; try with_reducible rfl)
        try simp only [Act.put, List.setIfInBounds_toArray, List.set_cons_zero, List.set_cons_succ]
        refine wpAnyH_ready (rs := [9]) (by kernel_rfl) (by simp) ?_
        refine AllReadyH.cons (o := ⟨some 49, _, _, _, _, _⟩) rfl (fun K hK => ?_) AllReadyH.nil
        go_simp
        go_at_call 98; refine (HC.out _ (HCH.out.then_below hHeld.1.2) y x hyd hxd).mono ?_; rintro e w6 ⟨rfl, hb6⟩
        (try go_wp2_with fail)
        refine hK.out _ _ (keepM8 hgl hgl hgl hgl hgl hgl hgl hgl ‹_ ∧ _› hb6) (fun hHeld => ?_)
        clear hK K
        try simp only [Act.put, List.setIfInBounds_toArray, List.set_cons_zero, List.set_cons_succ]
        refine wpAnyH_take (i := 10) (oi := ⟨some 50, _, _, _, _, _⟩) (v := ?_) rfl (by kernel_rfl) (by kernel_rfl) (by kernel_rfl) (fun _ _ _ h => h) (Or.inl ⟨by rfl, ?_⟩) (by assumption) ?_
        rotate_left
        · (intro w hSw; (try dsimp only at hSw); go_simp; try with_reducible rfl)
        try simp only [Act.put, List.setIfInBounds_toArray, List.set_cons_zero, List.set_cons_succ]
        refine wpAnyH_done (by kernel_rfl) ?_ _
        obtain ⟨⟨-, hBw⟩, -⟩ := hHeld
        have HD6 := hid (DatAt.below HDA.out hBw)
        have HC6 := hid (HCH.out.then_below hBw)
        clear a0 a1 a2 a3 b0 b1 b2 b3 hb6 hBw
        go_wp2_with fail
        go_roundw
        case rel => exact ⟨h + 1, j, ⟨by go_num, rfl⟩, ⟨by omega, by omega, hj⟩, HZ2.out, HC6.out, HD6.out⟩
        case measure => simp [intOf]; omega
      · have hk2 : ¬ key y - key x < 0 := by omega
        have HZ2 := hid (show (i = m ∨ ∃ h : i - 1 - m < Y.length, key Y[i - 1 - m] < key x) ∧ (h = b ∨ ∃ h9 : h - m < Y.length, key x ≤ key Y[h - m]) from ⟨HZ.out.1, .inr ⟨hhm, by rw [← HYE.out]; omega⟩⟩)
        clear hk
        go_wp2_with fail
        refine wp_region_held_drew (S := (fun w' => (True ∧ Below wr.heap.size wr w') ∧ w'.cell? ⟨g, h * 4, none⟩ = some (.int .i64 y.fDay) ∧ w'.cell? ⟨g, h * 4 + 1, none⟩ = some (.string y.fWho) ∧ w'.cell? ⟨g, h * 4 + 2, none⟩ = some (.int .i64 y.fKind) ∧ w'.cell? ⟨g, h * 4 + 3, none⟩ = some (.int .i64 y.fAmount) ∧ w'.cell? ⟨g, a * 4, none⟩ = some (.int .i64 x.fDay) ∧ w'.cell? ⟨g, a * 4 + 1, none⟩ = some (.string x.fWho) ∧ w'.cell? ⟨g, a * 4 + 2, none⟩ = some (.int .i64 x.fKind) ∧ w'.cell? ⟨g, a * 4 + 3, none⟩ = some (.int .i64 x.fAmount))) (by kernel_rfl) ⟨⟨trivial, (Below.refl _ _).drew⟩, a0, a1, a2, a3, b0, b1, b2, b3⟩ (fun hHeld => ?_)
        refine wpAnyH_take (i := 0) (oi := ⟨some 40, _, _, _, _, _⟩) (v := ?_) rfl (by kernel_rfl) (by kernel_rfl) (by kernel_rfl) (fun _ _ _ h => h) (Or.inl ⟨by rfl, ?_⟩) (by assumption) ?_
        rotate_left
        · (intro w hSw; (try dsimp only at hSw); go_simp; try with_reducible rfl)
        try simp only [Act.put, List.setIfInBounds_toArray, List.set_cons_zero, List.set_cons_succ]
        refine wpAnyH_take (i := 1) (oi := ⟨some 41, _, _, _, _, _⟩) (v := ?_) rfl (by kernel_rfl) (by kernel_rfl) (by kernel_rfl) (fun _ _ _ h => h) (Or.inl ⟨by rfl, ?_⟩) (by assumption) ?_
        rotate_left
        · (intro w hSw; (try dsimp only at hSw); go_simp; try with_reducible rfl)
        try simp only [Act.put, List.setIfInBounds_toArray, List.set_cons_zero, List.set_cons_succ]
        refine wpAnyH_take (i := 2) (oi := ⟨some 42, _, _, _, _, _⟩) (v := ?_) rfl (by kernel_rfl) (by kernel_rfl) (by kernel_rfl) (fun _ _ _ h => h) (Or.inl ⟨by rfl, ?_⟩) (by assumption) ?_
        rotate_left
        · (intro w hSw; (try dsimp only at hSw); go_simp; try with_reducible rfl)
        try simp only [Act.put, List.setIfInBounds_toArray, List.set_cons_zero, List.set_cons_succ]
        refine wpAnyH_take (i := 3) (oi := ⟨some 43, _, _, _, _, _⟩) (v := ?_) rfl (by kernel_rfl) (by kernel_rfl) (by kernel_rfl) (fun _ _ _ h => h) (Or.inl ⟨by rfl, ?_⟩) (by assumption) ?_
        rotate_left
        · (intro w hSw; (try dsimp only at hSw); go_simp; try with_reducible rfl)
        try simp only [Act.put, List.setIfInBounds_toArray, List.set_cons_zero, List.set_cons_succ]
        refine wpAnyH_take (i := 4) (oi := ⟨some 44, _, _, _, _, _⟩) (v := ?_) rfl (by kernel_rfl) (by kernel_rfl) (by kernel_rfl) (fun _ _ _ h => h) (Or.inl ⟨by rfl, ?_⟩) (by assumption) ?_
        rotate_left
        · (intro w hSw; (try dsimp only at hSw); go_simp; try with_reducible rfl)
        try simp only [Act.put, List.setIfInBounds_toArray, List.set_cons_zero, List.set_cons_succ]
        refine wpAnyH_take (i := 5) (oi := ⟨some 45, _, _, _, _, _⟩) (v := ?_) rfl (by kernel_rfl) (by kernel_rfl) (by kernel_rfl) (fun _ _ _ h => h) (Or.inl ⟨by rfl, ?_⟩) (by assumption) ?_
        rotate_left
        · (intro w hSw; (try dsimp only at hSw); go_simp; try with_reducible rfl)
        try simp only [Act.put, List.setIfInBounds_toArray, List.set_cons_zero, List.set_cons_succ]
        refine wpAnyH_take (i := 6) (oi := ⟨some 46, _, _, _, _, _⟩) (v := ?_) rfl (by kernel_rfl) (by kernel_rfl) (by kernel_rfl) (fun _ _ _ h => h) (Or.inl ⟨by rfl, ?_⟩) (by assumption) ?_
        rotate_left
        · (intro w hSw; (try dsimp only at hSw); go_simp; try with_reducible rfl)
        try simp only [Act.put, List.setIfInBounds_toArray, List.set_cons_zero, List.set_cons_succ]
        refine wpAnyH_take (i := 7) (oi := ⟨some 47, _, _, _, _, _⟩) (v := ?_) rfl (by kernel_rfl) (by kernel_rfl) (by kernel_rfl) (fun _ _ _ h => h) (Or.inl ⟨by rfl, ?_⟩) (by assumption) ?_
        rotate_left
        · (intro w hSw; (try dsimp only at hSw); go_simp; try with_reducible rfl)
        try simp only [Act.put, List.setIfInBounds_toArray, List.set_cons_zero, List.set_cons_succ]
        refine wpAnyH_take (i := 8) (oi := ⟨some 48, _, _, _, _, _⟩) (v := ?_) rfl (by kernel_rfl) (by kernel_rfl) (by kernel_rfl) (fun _ _ _ h => h) (Or.inl ⟨by rfl, ?_⟩) (by assumption) ?_
        rotate_left
        · (intro w hSw; (try dsimp only at hSw); go_simp; try with_reducible rfl)
        try simp only [Act.put, List.setIfInBounds_toArray, List.set_cons_zero, List.set_cons_succ]
        refine wpAnyH_ready (rs := [9]) (by kernel_rfl) (by simp) ?_
        refine AllReadyH.cons (o := ⟨some 49, _, _, _, _, _⟩) rfl (fun K hK => ?_) AllReadyH.nil
        go_simp
        go_at_call 98; refine (HC.out _ (HCH.out.then_below hHeld.1.2) y x hyd hxd).mono ?_; rintro e w6 ⟨rfl, hb6⟩
        (try go_wp2_with fail)
        refine hK.out _ _ (keepM8 hgl hgl hgl hgl hgl hgl hgl hgl ‹_ ∧ _› hb6) (fun hHeld => ?_)
        clear hK K
        try simp only [Act.put, List.setIfInBounds_toArray, List.set_cons_zero, List.set_cons_succ]
        refine wpAnyH_take (i := 10) (oi := ⟨some 50, _, _, _, _, _⟩) (v := ?_) rfl (by kernel_rfl) (by kernel_rfl) (by kernel_rfl) (fun _ _ _ h => h) (Or.inl ⟨by rfl, ?_⟩) (by assumption) ?_
        rotate_left
        · (intro w hSw; (try dsimp only at hSw); go_simp; try with_reducible rfl)
        try simp only [Act.put, List.setIfInBounds_toArray, List.set_cons_zero, List.set_cons_succ]
        refine wpAnyH_done (by kernel_rfl) ?_ _
        obtain ⟨⟨-, hBw⟩, -⟩ := hHeld
        have HD6 := hid (DatAt.below HDA.out hBw)
        have HC6 := hid (HCH.out.then_below hBw)
        clear a0 a1 a2 a3 b0 b1 b2 b3 hb6 hBw
        go_wp2_with fail
        go_roundw
        case rel => exact ⟨i, h, ⟨rfl, rfl⟩, ⟨hi, h1, by omega⟩, HZ2.out, HC6.out, HD6.out⟩
        case measure => simp [intOf]; omega
    · obtain rfl : i = j := by omega
      obtain ⟨S, hS⟩ : ∃ S, S = i - m := ⟨_, rfl⟩
      have q0 : ¬ (i : Int) < (i : Int) := by omega
      have sE : (i : Int) - 1 = ((a + S : Nat) : Int) := by have := HM.out; omega
      have hSY : S ≤ Y.length := by have := HB.out; omega
      have HMG := hid (merge_one_left (key := key) (x := x) HY.out (s := S) (by
        rcases HZ.out.1 with h | ⟨h, h3⟩
        · exact .inl (by omega)
        · right
          have e : i - 1 - m = S - 1 := by omega
          simp only [e] at h h3
          exact ⟨h, h3⟩) (by
        rcases HZ.out.2 with h | ⟨h, h3⟩
        · exact .inl (by have := HB.out; omega)
        · right
          have e : i - m = S := by omega
          simp only [e] at h h3
          exact ⟨h, h3⟩))
      have HI := hid hS
      clear hS
      go_wp2_with fail
      go_loopw [13] (fun v wr2 => ∃ (k t : Nat), (v = .int .i64 (k : Int)) ∧ (k = a + t ∧ t ≤ S) ∧ Chg g (g + 1) w0 wr2 ∧ DatAt 76 4 DVisit.cells B g cap n (P ++ (Y.take t ++ x :: Y.drop t ++ Q)) wr2) (fun v _ => a + S - (intOf v).toNat)
      case atStart => exact ⟨a, 0, rfl, ⟨rfl, Nat.zero_le _⟩, HCH.out, by simpa using HDA.out⟩
      case round =>
        clear HCH HDA
        obtain ⟨k, t, rfl, ⟨hkt, htS⟩, hch, hd⟩ := hrel
        have HCH := hid hch
        have HDA := hid hd
        have hgl : g < wr.heap.size := Nat.lt_of_lt_of_le hg hch.size
        clear hch hd
        by_cases hlt2 : t < S
        · have htY : t < Y.length := by omega
          obtain ⟨y, hy⟩ : ∃ y, y = Y[t] := ⟨_, rfl⟩
          have q1 : (k : Int) < ((a + S : Nat) : Int) := by omega
          have q2 : (0 : Int) ≤ (k : Int) := by omega
          have q3 : (k : Int) < (n : Int) := by have := HM.out; have := HB.out; omega
          have q4 : (k : Int) + 1 < (n : Int) := by have := HM.out; have := HB.out; omega
          have q5 : (0 : Int) ≤ (k : Int) + 1 := by omega
          have t1 : ((k : Int) + 1).toNat = k + 1 := by omega
          have v1 : IntKind.i64.wrap (k : Int) = (k : Int) := IntWalk.i64_in _ (by omega)
          have v2 : IntKind.i64.wrap ((k : Int) + 1) = (k : Int) + 1 := IntWalk.i64_in _ (by omega)
          have HKT := hid hkt
          have el := hid (show P ++ (Y.take t ++ x :: Y.drop t ++ Q) = (P ++ Y.take t) ++ x :: y :: (Y.drop (t + 1) ++ Q) by rw [List.drop_eq_getElem_cons htY, ← hy]; simp)
          have hpl : k = (P ++ Y.take t).length := by have := HA.out; rw [List.length_append, List.length_take]; omega
          have ex : (P ++ (Y.take t ++ x :: Y.drop t ++ Q))[k]? = some x := by rw [el.out]; exact at_mid hpl
          have ey : (P ++ (Y.take t ++ x :: Y.drop t ++ Q))[k + 1]? = some y := by
            rw [el.out]
            have h9 := at_mid (u := (P ++ Y.take t) ++ [x]) (t := Y.drop (t + 1) ++ Q) (x := y) (i := k + 1) (by rw [hpl]; simp only [List.length_append, List.length_singleton])
            simpa using h9
          have a0 : wr.cell? ⟨g, k * 4, none⟩ = some (.int .i64 x.fDay) := DatAt.cell HDA.out hencV (f := 0) ex rfl
          have a1 : wr.cell? ⟨g, k * 4 + 1, none⟩ = some (.string x.fWho) := DatAt.cell HDA.out hencV (f := 1) ex rfl
          have a2 : wr.cell? ⟨g, k * 4 + 2, none⟩ = some (.int .i64 x.fKind) := DatAt.cell HDA.out hencV (f := 2) ex rfl
          have a3 : wr.cell? ⟨g, k * 4 + 3, none⟩ = some (.int .i64 x.fAmount) := DatAt.cell HDA.out hencV (f := 3) ex rfl
          have b0 : wr.cell? ⟨g, (k + 1) * 4, none⟩ = some (.int .i64 y.fDay) := DatAt.cell HDA.out hencV (f := 0) ey rfl
          have b1 : wr.cell? ⟨g, (k + 1) * 4 + 1, none⟩ = some (.string y.fWho) := DatAt.cell HDA.out hencV (f := 1) ey rfl
          have b2 : wr.cell? ⟨g, (k + 1) * 4 + 2, none⟩ = some (.int .i64 y.fKind) := DatAt.cell HDA.out hencV (f := 2) ey rfl
          have b3 : wr.cell? ⟨g, (k + 1) * 4 + 3, none⟩ = some (.int .i64 y.fAmount) := DatAt.cell HDA.out hencV (f := 3) ey rfl
          have d0 : wr.frozen? ⟨g, k * 4, none⟩ = false := World.ownsRow.frozenAt HDA.out _
          have d1 : wr.frozen? ⟨g, k * 4 + 1, none⟩ = false := World.ownsRow.frozenAt HDA.out _
          have d2 : wr.frozen? ⟨g, k * 4 + 2, none⟩ = false := World.ownsRow.frozenAt HDA.out _
          have d3 : wr.frozen? ⟨g, k * 4 + 3, none⟩ = false := World.ownsRow.frozenAt HDA.out _
          have e0 : wr.frozen? ⟨g, (k + 1) * 4, none⟩ = false := World.ownsRow.frozenAt HDA.out _
          have e1 : wr.frozen? ⟨g, (k + 1) * 4 + 1, none⟩ = false := World.ownsRow.frozenAt HDA.out _
          have e2 : wr.frozen? ⟨g, (k + 1) * 4 + 2, none⟩ = false := World.ownsRow.frozenAt HDA.out _
          have e3 : wr.frozen? ⟨g, (k + 1) * 4 + 3, none⟩ = false := World.ownsRow.frozenAt HDA.out _
          have HEX := hid ex
          have HEY := hid ey
          have HPL := hid hpl
          have HYE := hid hy
          clear ex ey hpl hy hkt
          go_wp2_with fail
          refine wp_region_T (fun w' => w'.cell? ⟨g, k * 4, none⟩ = some (.int .i64 x.fDay) ∧ w'.cell? ⟨g, k * 4 + 1, none⟩ = some (.string x.fWho) ∧ w'.cell? ⟨g, k * 4 + 2, none⟩ = some (.int .i64 x.fKind) ∧ w'.cell? ⟨g, k * 4 + 3, none⟩ = some (.int .i64 x.fAmount) ∧ w'.cell? ⟨g, (k + 1) * 4, none⟩ = some (.int .i64 y.fDay) ∧ w'.cell? ⟨g, (k + 1) * 4 + 1, none⟩ = some (.string y.fWho) ∧ w'.cell? ⟨g, (k + 1) * 4 + 2, none⟩ = some (.int .i64 y.fKind) ∧ w'.cell? ⟨g, (k + 1) * 4 + 3, none⟩ = some (.int .i64 y.fAmount)) [15, 17] (by kernel_rfl) ⟨a0, a1, a2, a3, b0, b1, b2, b3⟩ (fun hHeld => ?_)
          refine wpAnyT_takeW (i := 0) (oi := ⟨some 61, _, _, _, _, _⟩) (v := ?_) rfl (by kernel_rfl) (by kernel_rfl) (by kernel_rfl) (by kernel_rfl) (fun _ _ _ h => h) (Or.inl ⟨by rfl, ?_⟩) (by assumption) ?_
          rotate_left
          · (intro w hSw; go_simp; try with_reducible rfl)
          try simp only [Act.put, List.setIfInBounds_toArray, List.set_cons_zero, List.set_cons_succ]
          refine wpAnyT_takeW (i := 1) (oi := ⟨some 62, _, _, _, _, _⟩) (v := ?_) rfl (by kernel_rfl) (by kernel_rfl) (by kernel_rfl) (by kernel_rfl) (fun _ _ _ h => h) (Or.inl ⟨by rfl, ?_⟩) (by assumption) ?_
          rotate_left
          · (intro w hSw; go_simp; try with_reducible rfl)
          try simp only [Act.put, List.setIfInBounds_toArray, List.set_cons_zero, List.set_cons_succ]
          refine wpAnyT_takeW (i := 2) (oi := ⟨some 63, _, _, _, _, _⟩) (v := ?_) rfl (by kernel_rfl) (by kernel_rfl) (by kernel_rfl) (by kernel_rfl) (fun _ _ _ h => h) (Or.inl ⟨by rfl, ?_⟩) (by assumption) ?_
          rotate_left
          · (intro w hSw; go_simp; try with_reducible rfl)
          try simp only [Act.put, List.setIfInBounds_toArray, List.set_cons_zero, List.set_cons_succ]
          refine wpAnyT_takeW (i := 3) (oi := ⟨some 64, _, _, _, _, _⟩) (v := ?_) rfl (by kernel_rfl) (by kernel_rfl) (by kernel_rfl) (by kernel_rfl) (fun _ _ _ h => h) (Or.inl ⟨by rfl, ?_⟩) (by assumption) ?_
          rotate_left
          · (intro w hSw; go_simp; try with_reducible rfl)
          try simp only [Act.put, List.setIfInBounds_toArray, List.set_cons_zero, List.set_cons_succ]
          refine wpAnyT_takeW (i := 4) (oi := ⟨some 65, _, _, _, _, _⟩) (v := ?_) rfl (by kernel_rfl) (by kernel_rfl) (by kernel_rfl) (by kernel_rfl) (fun _ _ _ h => h) (Or.inl ⟨by rfl, ?_⟩) (by assumption) ?_
          rotate_left
          · (intro w hSw; go_simp; try with_reducible rfl)
          try simp only [Act.put, List.setIfInBounds_toArray, List.set_cons_zero, List.set_cons_succ]
          refine wpAnyT_takeW (i := 5) (oi := ⟨some 66, _, _, _, _, _⟩) (v := ?_) rfl (by kernel_rfl) (by kernel_rfl) (by kernel_rfl) (by kernel_rfl) (fun _ _ _ h => h) (Or.inl ⟨by rfl, ?_⟩) (by assumption) ?_
          rotate_left
          · (intro w hSw; go_simp; try with_reducible rfl)
          try simp only [Act.put, List.setIfInBounds_toArray, List.set_cons_zero, List.set_cons_succ]
          refine wpAnyT_takeW (i := 6) (oi := ⟨some 67, _, _, _, _, _⟩) (v := ?_) rfl (by kernel_rfl) (by kernel_rfl) (by kernel_rfl) (by kernel_rfl) (fun _ _ _ h => h) (Or.inl ⟨by rfl, ?_⟩) (by assumption) ?_
          rotate_left
          · (intro w hSw; go_simp; try with_reducible rfl)
          try simp only [Act.put, List.setIfInBounds_toArray, List.set_cons_zero, List.set_cons_succ]
          refine wpAnyT_takeW (i := 7) (oi := ⟨some 68, _, _, _, _, _⟩) (v := ?_) rfl (by kernel_rfl) (by kernel_rfl) (by kernel_rfl) (by kernel_rfl) (fun _ _ _ h => h) (Or.inl ⟨by rfl, ?_⟩) (by assumption) ?_
          rotate_left
          · (intro w hSw; go_simp; try with_reducible rfl)
          try simp only [Act.put, List.setIfInBounds_toArray, List.set_cons_zero, List.set_cons_succ]
          refine wpAnyT_takeW (i := 8) (oi := ⟨some 69, _, _, _, _, _⟩) (v := ?_) rfl (by kernel_rfl) (by kernel_rfl) (by kernel_rfl) (by kernel_rfl) (fun _ _ _ h => h) (Or.inl ⟨by rfl, ?_⟩) (by assumption) ?_
          rotate_left
          · (intro w hSw; go_simp; try with_reducible rfl)
          try simp only [Act.put, List.setIfInBounds_toArray, List.set_cons_zero, List.set_cons_succ]
          refine wpAnyT_take (i := 9) (oi := ⟨some 70, _, _, _, _, _⟩) (v := ?_) rfl (by kernel_rfl) (by kernel_rfl) (by kernel_rfl) (by kernel_rfl) (by kernel_rfl) (by kernel_rfl) (fun _ _ _ h => h) (Or.inl ⟨by rfl, ?_⟩) (by assumption) ?_
          rotate_left
          · (intro w hSw; (try dsimp only at hSw); go_simp; try with_reducible rfl)
          try simp only [Act.put, List.setIfInBounds_toArray, List.set_cons_zero, List.set_cons_succ]
          refine wpAnyT_takeW (i := 10) (oi := ⟨some 71, _, _, _, _, _⟩) (v := ?_) rfl (by kernel_rfl) (by kernel_rfl) (by kernel_rfl) (by kernel_rfl) (fun _ _ _ h => h) (Or.inl ⟨by rfl, ?_⟩) (by assumption) ?_
          rotate_left
          · (intro w hSw; go_simp; try with_reducible rfl)
          try simp only [Act.put, List.setIfInBounds_toArray, List.set_cons_zero, List.set_cons_succ]
          refine wpAnyT_takeW (i := 11) (oi := ⟨some 72, _, _, _, _, _⟩) (v := ?_) rfl (by kernel_rfl) (by kernel_rfl) (by kernel_rfl) (by kernel_rfl) (fun _ _ _ h => h) (Or.inl ⟨by rfl, ?_⟩) (by assumption) ?_
          rotate_left
          · (intro w hSw; go_simp; try with_reducible rfl)
          try simp only [Act.put, List.setIfInBounds_toArray, List.set_cons_zero, List.set_cons_succ]
          refine wpAnyT_takeW (i := 12) (oi := ⟨some 73, _, _, _, _, _⟩) (v := ?_) rfl (by kernel_rfl) (by kernel_rfl) (by kernel_rfl) (by kernel_rfl) (fun _ _ _ h => h) (Or.inl ⟨by rfl, ?_⟩) (by assumption) ?_
          rotate_left
          · (intro w hSw; go_simp; try with_reducible rfl)
          try simp only [Act.put, List.setIfInBounds_toArray, List.set_cons_zero, List.set_cons_succ]
          refine wpAnyT_take (i := 13) (oi := ⟨some 74, _, _, _, _, _⟩) (v := ?_) rfl (by kernel_rfl) (by kernel_rfl) (by kernel_rfl) (by kernel_rfl) (by kernel_rfl) (by kernel_rfl) (fun _ _ _ h => h) (Or.inl ⟨by rfl, ?_⟩) (by assumption) ?_
          rotate_left
          · (intro w hSw; (try dsimp only at hSw); go_simp; try with_reducible rfl)
          try simp only [Act.put, List.setIfInBounds_toArray, List.set_cons_zero, List.set_cons_succ]
          refine wpAnyT_takeW (i := 14) (oi := ⟨some 75, _, _, _, _, _⟩) (v := ?_) rfl (by kernel_rfl) (by kernel_rfl) (by kernel_rfl) (by kernel_rfl) (fun _ _ _ h => h) (Or.inl ⟨by rfl, ?_⟩) (by assumption) ?_
          rotate_left
          · (intro w hSw; go_simp; try with_reducible rfl)
          try simp only [Act.put, List.setIfInBounds_toArray, List.set_cons_zero, List.set_cons_succ]
          refine wpAnyT_ready (rs := [15]) (by kernel_rfl) (by simp) ?_
          refine AllReadyT.consB (o := ⟨none, _, _, _, _, _⟩) rfl (by kernel_rfl) (fun K hK => ?_) AllReadyT.nil
          go_simp
          refine hK.out _ _ ?_
          clear hK K
          try simp only [Act.put, List.setIfInBounds_toArray, List.set_cons_zero, List.set_cons_succ]
          refine wpAnyT_takeV (i := 16) (oi := ⟨some 76, _, _, _, _, _⟩) (v := ?_) rfl (by kernel_rfl) (by kernel_rfl) (by kernel_rfl) (by kernel_rfl) (by kernel_rfl) (fun _ _ _ h => h) (Or.inl ⟨by rfl, ?_⟩) ?_
          rotate_left
          · (intro w hSw; go_simp; try with_reducible rfl)
          try simp only [Act.put, List.setIfInBounds_toArray, List.set_cons_zero, List.set_cons_succ]
          refine wpAnyT_ready (rs := [17]) (by kernel_rfl) (by simp) ?_
          refine AllReadyT.consB (o := ⟨none, _, _, _, _, _⟩) rfl (by kernel_rfl) (fun K hK => ?_) AllReadyT.nil
          go_simp
          refine hK.out _ _ ?_
          clear hK K
          try simp only [Act.put, List.setIfInBounds_toArray, List.set_cons_zero, List.set_cons_succ]
          refine wpAnyT_done (by kernel_rfl) ?_ _
          have HD7 := hid (show DatAt 76 4 DVisit.cells B g cap n (P ++ (Y.take (t + 1) ++ x :: Y.drop (t + 1) ++ Q)) ((((((((wr.setCell ⟨g, k * 4, none⟩ (.int .i64 y.fDay)).setCell ⟨g, k * 4 + 1, none⟩ (.string y.fWho)).setCell ⟨g, k * 4 + 2, none⟩ (.int .i64 y.fKind)).setCell ⟨g, k * 4 + 3, none⟩ (.int .i64 y.fAmount)).setCell ⟨g, (k + 1) * 4, none⟩ (.int .i64 x.fDay)).setCell ⟨g, (k + 1) * 4 + 1, none⟩ (.string x.fWho)).setCell ⟨g, (k + 1) * 4 + 2, none⟩ (.int .i64 x.fKind)).setCell ⟨g, (k + 1) * 4 + 3, none⟩ (.int .i64 x.fAmount)) by
            have h9 := DatAt.swap (w := wr) (i := k) (j := k + 1) (x := x) (y := y) HDA.out hencV (List.getElem?_eq_some_iff.1 HEX.out).1 (List.getElem?_eq_some_iff.1 HEY.out).1
            rw [el.out, swapWV] at h9
            have h8 := set_two (u := P ++ Y.take t) (v := []) (t := Y.drop (t + 1) ++ Q) (y := x) (x := y)
            rw [List.length_nil, Nat.zero_add, List.nil_append, List.nil_append, ← HPL.out] at h8
            rw [h8] at h9
            have e6 : P ++ (Y.take (t + 1) ++ x :: Y.drop (t + 1) ++ Q) = (P ++ Y.take t) ++ y :: x :: (Y.drop (t + 1) ++ Q) := by rw [List.take_succ_eq_append_getElem (by have := HYE; omega), ← HYE.out]; simp
            rw [e6]
            exact h9)
          have HC7 := hid (show Chg g (g + 1) w0 ((((((((wr.setCell ⟨g, k * 4, none⟩ (.int .i64 y.fDay)).setCell ⟨g, k * 4 + 1, none⟩ (.string y.fWho)).setCell ⟨g, k * 4 + 2, none⟩ (.int .i64 y.fKind)).setCell ⟨g, k * 4 + 3, none⟩ (.int .i64 y.fAmount)).setCell ⟨g, (k + 1) * 4, none⟩ (.int .i64 x.fDay)).setCell ⟨g, (k + 1) * 4 + 1, none⟩ (.string x.fWho)).setCell ⟨g, (k + 1) * 4 + 2, none⟩ (.int .i64 x.fKind)).setCell ⟨g, (k + 1) * 4 + 3, none⟩ (.int .i64 x.fAmount)) by
            rw [← swapWV]
            exact Chg.setCells (Nat.le_refl _) (by omega) _ (Chg.setCells (Nat.le_refl _) (by omega) _ HCH.out))
          go_wp2_with fail
          go_roundw
          case rel => exact ⟨k + 1, t + 1, by go_num, ⟨by have := HKT.out; omega, by omega⟩, HC7.out.then_below (Below.refl _ _).drew, HD7.out.drew⟩
          case measure => have := HKT.out; simp [intOf]; omega
        · obtain rfl : t = S := by omega
          have q1 : ¬ (k : Int) < ((a + t : Nat) : Int) := by omega
          go_wp2_with fail
          (try simp only [Exit.inBlock, Exit.then]); first | refine bodyPost_ret (results_none rfl _ _ _) rfl ?_ | refine bodyPost_end (results_none rfl _ _ _) rfl ?_
          exact ⟨rfl, Y.take t ++ x :: Y.drop t, HMG.out, HCH.out, HDA.out⟩

set_option maxHeartbeats 1600000 in
set_option maxRecDepth 100000 in
theorem symV_right (key : DVisit → Int) (D : DVisit → Prop) (B g cap n : Nat) (w0 : World) (hC : CmpV key D g w0) (hg : g < w0.heap.size) (hn : n ≤ 1000) (y : DVisit) (P X Q : List DVisit) (a m b : Nat) (ha : P.length = a) (hm : a + X.length = m) (hb : m + 1 = b) (hX : UpK key X) (hX2 : 2 ≤ X.length) (hD : ∀ z ∈ X ++ [y], D z) (w : World) (hch : Chg g (g + 1) w0 w) (hd : DatAt 76 4 DVisit.cells B g cap n (P ++ (X ++ ([y] ++ Q))) w) :
    Calls Try.prog 163 #[.slice (some ⟨g, 0, none⟩) n cap, .int .i64 (a : Int), .int .i64 (m : Int), .int .i64 (b : Int), .func (.func 98) #[] #[]] w (SymPostV key B g cap n w0 P X [y] Q) := by
  have HC := hid hC
  have HD := hid hD
  have HCH := hid hch
  have HDA := hid hd
  have hlen := hd.length hencV (by omega)
  simp only [List.length_append, List.length_singleton] at hlen
  have hbn : b ≤ n := by omega
  have HA := hid ha
  have HM := hid hm
  have HB := hid hb
  have HX := hid hX
  clear hC hD hch hd hlen ha hm hb hX
  have s1 : (m : Int) - (a : Int) = (X.length : Int) := by have := HM.out; omega
  have s2 : (b : Int) - (m : Int) = 1 := by have := HB.out; omega
  have d1 : ((X.length : Int) == 1) = false := by rw [beq_eq_false_iff_ne]; omega
  have q00 : (0 : Int) ≤ (m : Int) := by omega
  have q01 : (m : Int) < (n : Int) := by have := HM.out; have := HB.out; omega
  go_enter Try.func163, Try.ntmps163
  go_wp2_with fail
  go_loopw [14, 15] (fun vi vj wr => ∃ (i j : Nat), (vi = .int .i64 (i : Int) ∧ vj = .int .i64 (j : Int)) ∧ (a ≤ i ∧ i ≤ j ∧ j ≤ m) ∧ Hid ((i = a ∨ ∃ h : i - 1 - a < X.length, key X[i - 1 - a] ≤ key y) ∧ (j = m ∨ ∃ h : j - a < X.length, key y < key X[j - a])) ∧ Chg g (g + 1) w0 wr ∧ DatAt 76 4 DVisit.cells B g cap n (P ++ (X ++ ([y] ++ Q))) wr) (fun vi vj _ => (intOf vj).toNat - (intOf vi).toNat)
  case atStart => exact ⟨a, m, ⟨rfl, rfl⟩, ⟨Nat.le_refl _, by have := HM.out; omega, Nat.le_refl _⟩, ⟨.inl rfl, .inl rfl⟩, HCH.out, HDA.out⟩
  case round =>
    clear HCH HDA
    obtain ⟨i, j, ⟨rfl, rfl⟩, ⟨hi, hij, hj⟩, HZ, hch, hd⟩ := hrel
    have HCH := hid hch
    have HDA := hid hd
    have hgl : g < wr.heap.size := Nat.lt_of_lt_of_le hg hch.size
    clear hch hd
    by_cases hlt : i < j
    · obtain ⟨h, hh⟩ : ∃ h, h = (i + j) / 2 := ⟨_, rfl⟩
      have h1 : i ≤ h := by omega
      have h2 : h < j := by omega
      have hhm : h - a < X.length := by have := HM.out; omega
      obtain ⟨x, hx⟩ : ∃ x, x = X[h - a] := ⟨_, rfl⟩
      have q0 : (i : Int) < (j : Int) := by omega
      have w1 : IntKind.u64.wrap ((i : Int) + (j : Int)) = (i : Int) + (j : Int) := IntWalk.u64_in _ (by omega)
      have w2 : ((i : Int) + (j : Int)) / 2 = (h : Int) := by omega
      have q1 : (0 : Int) ≤ (h : Int) := by omega
      have q2 : (h : Int) < (n : Int) := by omega
      have hxd : D x := HD.out x (by rw [hx]; exact List.mem_append_left _ (List.getElem_mem hhm))
      have hyd : D y := HD.out y (by simp)
      have ey : (P ++ (X ++ ([y] ++ Q)))[m]? = some y := by
        rw [← List.append_assoc]
        exact at_mid (by have := HA.out; have := HM.out; rw [List.length_append]; omega)
      have ex : (P ++ (X ++ ([y] ++ Q)))[h]? = some x := by
        have e1 : h = P.length + (h - a) := by have := HA.out; omega
        rw [e1, List.getElem?_append_right (by omega), Nat.add_sub_cancel_left, List.getElem?_append_left hhm, List.getElem?_eq_getElem hhm, hx]
      have a0 : wr.cell? ⟨g, m * 4, none⟩ = some (.int .i64 y.fDay) := DatAt.cell HDA.out hencV (f := 0) ey rfl
      have a1 : wr.cell? ⟨g, m * 4 + 1, none⟩ = some (.string y.fWho) := DatAt.cell HDA.out hencV (f := 1) ey rfl
      have a2 : wr.cell? ⟨g, m * 4 + 2, none⟩ = some (.int .i64 y.fKind) := DatAt.cell HDA.out hencV (f := 2) ey rfl
      have a3 : wr.cell? ⟨g, m * 4 + 3, none⟩ = some (.int .i64 y.fAmount) := DatAt.cell HDA.out hencV (f := 3) ey rfl
      have b0 : wr.cell? ⟨g, h * 4, none⟩ = some (.int .i64 x.fDay) := DatAt.cell HDA.out hencV (f := 0) ex rfl
      have b1 : wr.cell? ⟨g, h * 4 + 1, none⟩ = some (.string x.fWho) := DatAt.cell HDA.out hencV (f := 1) ex rfl
      have b2 : wr.cell? ⟨g, h * 4 + 2, none⟩ = some (.int .i64 x.fKind) := DatAt.cell HDA.out hencV (f := 2) ex rfl
      have b3 : wr.cell? ⟨g, h * 4 + 3, none⟩ = some (.int .i64 x.fAmount) := DatAt.cell HDA.out hencV (f := 3) ex rfl
      have HHH := hid hh
      have HXE := hid hx
      clear ex ey hh hx
      by_cases hk : key y < key x
      · have hk2 : key y - key x < 0 := by omega
        have hk3 : decide (key y - key x < 0) = true := decide_eq_true hk2
        have HZ2 := hid (show (i = a ∨ ∃ h : i - 1 - a < X.length, key X[i - 1 - a] ≤ key y) ∧ (h = m ∨ ∃ h9 : h - a < X.length, key y < key X[h - a]) from ⟨HZ.out.1, .inr ⟨hhm, by rw [← HXE.out]; exact hk⟩⟩)
        clear hk
        go_wp2_with fail
        refine wp_region_held_drew (S := (fun w' => (True ∧ Below wr.heap.size wr w') ∧ w'.cell? ⟨g, m * 4, none⟩ = some (.int .i64 y.fDay) ∧ w'.cell? ⟨g, m * 4 + 1, none⟩ = some (.string y.fWho) ∧ w'.cell? ⟨g, m * 4 + 2, none⟩ = some (.int .i64 y.fKind) ∧ w'.cell? ⟨g, m * 4 + 3, none⟩ = some (.int .i64 y.fAmount) ∧ w'.cell? ⟨g, h * 4, none⟩ = some (.int .i64 x.fDay) ∧ w'.cell? ⟨g, h * 4 + 1, none⟩ = some (.string x.fWho) ∧ w'.cell? ⟨g, h * 4 + 2, none⟩ = some (.int .i64 x.fKind) ∧ w'.cell? ⟨g, h * 4 + 3, none⟩ = some (.int .i64 x.fAmount))) (by kernel_rfl) ⟨⟨trivial, (Below.refl _ _).drew⟩, a0, a1, a2, a3, b0, b1, b2, b3⟩ (fun hHeld => ?_)
        refine wpAnyH_take (i := 0) (oi := ⟨some 92, _, _, _, _, _⟩) (v := ?_) rfl (by kernel_rfl) (by kernel_rfl) (by kernel_rfl) (fun _ _ _ h => h) (Or.inl ⟨by rfl, ?_⟩) (by assumption) ?_
        rotate_left
        · (intro w hSw; (try dsimp only at hSw); go_simp; try with_reducible rfl)
        try simp only [Act.put, List.setIfInBounds_toArray, List.set_cons_zero, List.set_cons_succ]
        refine wpAnyH_take (i := 1) (oi := ⟨some 93, _, _, _, _, _⟩) (v := ?_) rfl (by kernel_rfl) (by kernel_rfl) (by kernel_rfl) (fun _ _ _ h => h) (Or.inl ⟨by rfl, ?_⟩) (by assumption) ?_
        rotate_left
        · (intro w hSw; (try dsimp only at hSw); go_simp; try with_reducible rfl)
        try simp only [Act.put, List.setIfInBounds_toArray, List.set_cons_zero, List.set_cons_succ]
        refine wpAnyH_take (i := 2) (oi := ⟨some 94, _, _, _, _, _⟩) (v := ?_) rfl (by kernel_rfl) (by kernel_rfl) (by kernel_rfl) (fun _ _ _ h => h) (Or.inl ⟨by rfl, ?_⟩) (by assumption) ?_
        rotate_left
        · (intro w hSw; (try dsimp only at hSw); go_simp; try with_reducible rfl)
        try simp only [Act.put, List.setIfInBounds_toArray, List.set_cons_zero, List.set_cons_succ]
        refine wpAnyH_take (i := 3) (oi := ⟨some 95, _, _, _, _, _⟩) (v := ?_) rfl (by kernel_rfl) (by kernel_rfl) (by kernel_rfl) (fun _ _ _ h => h) (Or.inl ⟨by rfl, ?_⟩) (by assumption) ?_
        rotate_left
        · (intro w hSw; (try dsimp only at hSw); go_simp; try with_reducible rfl)
        try simp only [Act.put, List.setIfInBounds_toArray, List.set_cons_zero, List.set_cons_succ]
        refine wpAnyH_take (i := 4) (oi := ⟨some 96, _, _, _, _, _⟩) (v := ?_) rfl (by kernel_rfl) (by kernel_rfl) (by kernel_rfl) (fun _ _ _ h => h) (Or.inl ⟨by rfl, ?_⟩) (by assumption) ?_
        rotate_left
        · (intro w hSw; (try dsimp only at hSw); go_simp; try with_reducible rfl)
        try simp only [Act.put, List.setIfInBounds_toArray, List.set_cons_zero, List.set_cons_succ]
        refine wpAnyH_take (i := 5) (oi := ⟨some 97, _, _, _, _, _⟩) (v := ?_) rfl (by kernel_rfl) (by kernel_rfl) (by kernel_rfl) (fun _ _ _ h => h) (Or.inl ⟨by rfl, ?_⟩) (by assumption) ?_
        rotate_left
        · (intro w hSw; (try dsimp only at hSw); go_simp; try with_reducible rfl)
        try simp only [Act.put, List.setIfInBounds_toArray, List.set_cons_zero, List.set_cons_succ]
        refine wpAnyH_take (i := 6) (oi := ⟨some 98, _, _, _, _, _⟩) (v := ?_) rfl (by kernel_rfl) (by kernel_rfl) (by kernel_rfl) (fun _ _ _ h => h) (Or.inl ⟨by rfl, ?_⟩) (by assumption) ?_
        rotate_left
        · (intro w hSw; (try dsimp only at hSw); go_simp; try with_reducible rfl)
        try simp only [Act.put, List.setIfInBounds_toArray, List.set_cons_zero, List.set_cons_succ]
        refine wpAnyH_take (i := 7) (oi := ⟨some 99, _, _, _, _, _⟩) (v := ?_) rfl (by kernel_rfl) (by kernel_rfl) (by kernel_rfl) (fun _ _ _ h => h) (Or.inl ⟨by rfl, ?_⟩) (by assumption) ?_
        rotate_left
        · (intro w hSw; (try dsimp only at hSw); go_simp; try with_reducible rfl)
        try simp only [Act.put, List.setIfInBounds_toArray, List.set_cons_zero, List.set_cons_succ]
        refine wpAnyH_take (i := 8) (oi := ⟨some 100, _, _, _, _, _⟩) (v := ?_) rfl (by kernel_rfl) (by kernel_rfl) (by kernel_rfl) (fun _ _ _ h => h) (Or.inl ⟨by rfl, ?_⟩) (by assumption) ?_
        rotate_left
        · (intro w hSw; (try dsimp only at hSw); go_simp; try with_reducible rfl)
        try simp only [Act.put, List.setIfInBounds_toArray, List.set_cons_zero, List.set_cons_succ]
        refine wpAnyH_ready (rs := [9]) (by kernel_rfl) (by simp) ?_
        refine AllReadyH.cons (o := ⟨some 101, _, _, _, _, _⟩) rfl (fun K hK => ?_) AllReadyH.nil
        go_simp
        go_at_call 98; refine (HC.out _ (HCH.out.then_below hHeld.1.2) y x hyd hxd).mono ?_; rintro e w6 ⟨rfl, hb6⟩
        (try go_wp2_with fail)
        refine hK.out _ _ (keepM8 hgl hgl hgl hgl hgl hgl hgl hgl ‹_ ∧ _› hb6) (fun hHeld => ?_)
        clear hK K
        try simp only [Act.put, List.setIfInBounds_toArray, List.set_cons_zero, List.set_cons_succ]
        refine wpAnyH_take (i := 10) (oi := ⟨some 102, _, _, _, _, _⟩) (v := ?_) rfl (by kernel_rfl) (by kernel_rfl) (by kernel_rfl) (fun _ _ _ h => h) (Or.inl ⟨by rfl, ?_⟩) (by assumption) ?_
        rotate_left
        · (intro w hSw; (try dsimp only at hSw); go_simp; try with_reducible rfl)
        try simp only [Act.put, List.setIfInBounds_toArray, List.set_cons_zero, List.set_cons_succ]
        refine wpAnyH_take (i := 11) (oi := ⟨some 103, _, _, _, _, _⟩) (v := ?_) rfl (by kernel_rfl) (by kernel_rfl) (by kernel_rfl) (fun _ _ _ h => h) (Or.inl ⟨by rfl, ?_⟩) (by assumption) ?_
        rotate_left
        · (intro w hSw; (try dsimp only at hSw); go_simp; try with_reducible rfl)
        try simp only [Act.put, List.setIfInBounds_toArray, List.set_cons_zero, List.set_cons_succ]
        refine wpAnyH_done (by kernel_rfl) ?_ _
        obtain ⟨⟨-, hBw⟩, -⟩ := hHeld
        have HD6 := hid (DatAt.below HDA.out hBw)
        have HC6 := hid (HCH.out.then_below hBw)
        clear a0 a1 a2 a3 b0 b1 b2 b3 hb6 hBw
        go_wp2_with fail
        go_roundw
        case rel => exact ⟨i, h, ⟨rfl, rfl⟩, ⟨hi, h1, by omega⟩, HZ2.out, HC6.out, HD6.out⟩
        case measure => simp [intOf]; omega
      · have hk2 : ¬ key y - key x < 0 := by omega
        have hk3 : decide (key y - key x < 0) = false := decide_eq_false hk2
        have HZ2 := hid (show (h + 1 = a ∨ ∃ h9 : h + 1 - 1 - a < X.length, key X[h + 1 - 1 - a] ≤ key y) ∧ (j = m ∨ ∃ h : j - a < X.length, key y < key X[j - a]) from ⟨.inr ⟨by simpa using hhm, by simpa [← HXE.out] using hk⟩, HZ.out.2⟩)
        clear hk
        go_wp2_with fail
        refine wp_region_held_drew (S := (fun w' => (True ∧ Below wr.heap.size wr w') ∧ w'.cell? ⟨g, m * 4, none⟩ = some (.int .i64 y.fDay) ∧ w'.cell? ⟨g, m * 4 + 1, none⟩ = some (.string y.fWho) ∧ w'.cell? ⟨g, m * 4 + 2, none⟩ = some (.int .i64 y.fKind) ∧ w'.cell? ⟨g, m * 4 + 3, none⟩ = some (.int .i64 y.fAmount) ∧ w'.cell? ⟨g, h * 4, none⟩ = some (.int .i64 x.fDay) ∧ w'.cell? ⟨g, h * 4 + 1, none⟩ = some (.string x.fWho) ∧ w'.cell? ⟨g, h * 4 + 2, none⟩ = some (.int .i64 x.fKind) ∧ w'.cell? ⟨g, h * 4 + 3, none⟩ = some (.int .i64 x.fAmount))) (by kernel_rfl) ⟨⟨trivial, (Below.refl _ _).drew⟩, a0, a1, a2, a3, b0, b1, b2, b3⟩ (fun hHeld => ?_)
        refine wpAnyH_take (i := 0) (oi := ⟨some 92, _, _, _, _, _⟩) (v := ?_) rfl (by kernel_rfl) (by kernel_rfl) (by kernel_rfl) (fun _ _ _ h => h) (Or.inl ⟨by rfl, ?_⟩) (by assumption) ?_
        rotate_left
        · (intro w hSw; (try dsimp only at hSw); go_simp; try with_reducible rfl)
        try simp only [Act.put, List.setIfInBounds_toArray, List.set_cons_zero, List.set_cons_succ]
        refine wpAnyH_take (i := 1) (oi := ⟨some 93, _, _, _, _, _⟩) (v := ?_) rfl (by kernel_rfl) (by kernel_rfl) (by kernel_rfl) (fun _ _ _ h => h) (Or.inl ⟨by rfl, ?_⟩) (by assumption) ?_
        rotate_left
        · (intro w hSw; (try dsimp only at hSw); go_simp; try with_reducible rfl)
        try simp only [Act.put, List.setIfInBounds_toArray, List.set_cons_zero, List.set_cons_succ]
        refine wpAnyH_take (i := 2) (oi := ⟨some 94, _, _, _, _, _⟩) (v := ?_) rfl (by kernel_rfl) (by kernel_rfl) (by kernel_rfl) (fun _ _ _ h => h) (Or.inl ⟨by rfl, ?_⟩) (by assumption) ?_
        rotate_left
        · (intro w hSw; (try dsimp only at hSw); go_simp; try with_reducible rfl)
        try simp only [Act.put, List.setIfInBounds_toArray, List.set_cons_zero, List.set_cons_succ]
        refine wpAnyH_take (i := 3) (oi := ⟨some 95, _, _, _, _, _⟩) (v := ?_) rfl (by kernel_rfl) (by kernel_rfl) (by kernel_rfl) (fun _ _ _ h => h) (Or.inl ⟨by rfl, ?_⟩) (by assumption) ?_
        rotate_left
        · (intro w hSw; (try dsimp only at hSw); go_simp; try with_reducible rfl)
        try simp only [Act.put, List.setIfInBounds_toArray, List.set_cons_zero, List.set_cons_succ]
        refine wpAnyH_take (i := 4) (oi := ⟨some 96, _, _, _, _, _⟩) (v := ?_) rfl (by kernel_rfl) (by kernel_rfl) (by kernel_rfl) (fun _ _ _ h => h) (Or.inl ⟨by rfl, ?_⟩) (by assumption) ?_
        rotate_left
        · (intro w hSw; (try dsimp only at hSw); go_simp; try with_reducible rfl)
        try simp only [Act.put, List.setIfInBounds_toArray, List.set_cons_zero, List.set_cons_succ]
        refine wpAnyH_take (i := 5) (oi := ⟨some 97, _, _, _, _, _⟩) (v := ?_) rfl (by kernel_rfl) (by kernel_rfl) (by kernel_rfl) (fun _ _ _ h => h) (Or.inl ⟨by rfl, ?_⟩) (by assumption) ?_
        rotate_left
        · (intro w hSw; (try dsimp only at hSw); go_simp; try with_reducible rfl)
        try simp only [Act.put, List.setIfInBounds_toArray, List.set_cons_zero, List.set_cons_succ]
        refine wpAnyH_take (i := 6) (oi := ⟨some 98, _, _, _, _, _⟩) (v := ?_) rfl (by kernel_rfl) (by kernel_rfl) (by kernel_rfl) (fun _ _ _ h => h) (Or.inl ⟨by rfl, ?_⟩) (by assumption) ?_
        rotate_left
        · (intro w hSw; (try dsimp only at hSw); go_simp; try with_reducible rfl)
        try simp only [Act.put, List.setIfInBounds_toArray, List.set_cons_zero, List.set_cons_succ]
        refine wpAnyH_take (i := 7) (oi := ⟨some 99, _, _, _, _, _⟩) (v := ?_) rfl (by kernel_rfl) (by kernel_rfl) (by kernel_rfl) (fun _ _ _ h => h) (Or.inl ⟨by rfl, ?_⟩) (by assumption) ?_
        rotate_left
        · (intro w hSw; (try dsimp only at hSw); go_simp; try with_reducible rfl)
        try simp only [Act.put, List.setIfInBounds_toArray, List.set_cons_zero, List.set_cons_succ]
        refine wpAnyH_take (i := 8) (oi := ⟨some 100, _, _, _, _, _⟩) (v := ?_) rfl (by kernel_rfl) (by kernel_rfl) (by kernel_rfl) (fun _ _ _ h => h) (Or.inl ⟨by rfl, ?_⟩) (by assumption) ?_
        rotate_left
        · (intro w hSw; (try dsimp only at hSw); go_simp; try with_reducible rfl)
        try simp only [Act.put, List.setIfInBounds_toArray, List.set_cons_zero, List.set_cons_succ]
        refine wpAnyH_ready (rs := [9]) (by kernel_rfl) (by simp) ?_
        refine AllReadyH.cons (o := ⟨some 101, _, _, _, _, _⟩) rfl (fun K hK => ?_) AllReadyH.nil
        go_simp
        go_at_call 98; refine (HC.out _ (HCH.out.then_below hHeld.1.2) y x hyd hxd).mono ?_; rintro e w6 ⟨rfl, hb6⟩
        (try go_wp2_with fail)
        refine hK.out _ _ (keepM8 hgl hgl hgl hgl hgl hgl hgl hgl ‹_ ∧ _› hb6) (fun hHeld => ?_)
        clear hK K
        try simp only [Act.put, List.setIfInBounds_toArray, List.set_cons_zero, List.set_cons_succ]
        refine wpAnyH_take (i := 10) (oi := ⟨some 102, _, _, _, _, _⟩) (v := ?_) rfl (by kernel_rfl) (by kernel_rfl) (by kernel_rfl) (fun _ _ _ h => h) (Or.inl ⟨by rfl, ?_⟩) (by assumption) ?_
        rotate_left
        · (intro w hSw; (try dsimp only at hSw); go_simp; try with_reducible rfl)
        try simp only [Act.put, List.setIfInBounds_toArray, List.set_cons_zero, List.set_cons_succ]
        refine wpAnyH_take (i := 11) (oi := ⟨some 103, _, _, _, _, _⟩) (v := ?_) rfl (by kernel_rfl) (by kernel_rfl) (by kernel_rfl) (fun _ _ _ h => h) (Or.inl ⟨by rfl, ?_⟩) (by assumption) ?_
        rotate_left
        · (intro w hSw; (try dsimp only at hSw); go_simp; try with_reducible rfl)
        try simp only [Act.put, List.setIfInBounds_toArray, List.set_cons_zero, List.set_cons_succ]
        refine wpAnyH_done (by kernel_rfl) ?_ _
        obtain ⟨⟨-, hBw⟩, -⟩ := hHeld
        have HD6 := hid (DatAt.below HDA.out hBw)
        have HC6 := hid (HCH.out.then_below hBw)
        clear a0 a1 a2 a3 b0 b1 b2 b3 hb6 hBw
        go_wp2_with fail
        go_roundw
        case rel => exact ⟨h + 1, j, ⟨by go_num, rfl⟩, ⟨by omega, by omega, hj⟩, HZ2.out, HC6.out, HD6.out⟩
        case measure => simp [intOf]; omega
    · obtain rfl : i = j := by omega
      obtain ⟨S, hS⟩ : ∃ S, S = i - a := ⟨_, rfl⟩
      have q0 : ¬ (i : Int) < (i : Int) := by omega
      have hSX : S ≤ X.length := by have := HM.out; omega
      have HMG := hid (merge_one_right (key := key) (y := y) HX.out (s := S) (by
        rcases HZ.out.1 with h | ⟨h, h3⟩
        · exact .inl (by omega)
        · right
          have e : i - 1 - a = S - 1 := by omega
          simp only [e] at h h3
          exact ⟨h, h3⟩) (by
        rcases HZ.out.2 with h | ⟨h, h3⟩
        · exact .inl (by have := HM.out; omega)
        · right
          have e : i - a = S := by omega
          simp only [e] at h h3
          exact ⟨h, h3⟩))
      have HI := hid hS
      clear hS
      go_wp2_with fail
      go_loopw [17] (fun v wr2 => ∃ (k r : Nat), (v = .int .i64 (k : Int)) ∧ (k = a + r ∧ S ≤ r ∧ r ≤ X.length) ∧ Chg g (g + 1) w0 wr2 ∧ DatAt 76 4 DVisit.cells B g cap n (P ++ (X.take r ++ y :: X.drop r ++ Q)) wr2) (fun v _ => (intOf v).toNat)
      case atStart => exact ⟨m, X.length, rfl, ⟨HM.out.symm, hSX, Nat.le_refl _⟩, HCH.out, by simpa using HDA.out⟩
      case round =>
        clear HCH HDA
        obtain ⟨k, r, rfl, ⟨hkt, hSr, hrX⟩, hch, hd⟩ := hrel
        have HCH := hid hch
        have HDA := hid hd
        have hgl : g < wr.heap.size := Nat.lt_of_lt_of_le hg hch.size
        clear hch hd
        by_cases hlt2 : S < r
        · obtain ⟨t, rfl⟩ : ∃ t, r = t + 1 := ⟨r - 1, by omega⟩
          obtain ⟨p, hp⟩ : ∃ p : Nat, p = a + t := ⟨_, rfl⟩
          obtain rfl : k = p + 1 := by omega
          have htX : t < X.length := by omega
          obtain ⟨x, hx⟩ : ∃ x, x = X[t] := ⟨_, rfl⟩
          have zk : ((p + 1 : Nat) : Int) = (p : Int) + 1 := by omega
          have q1 : (i : Int) < (p : Int) + 1 := by have := HI.out; omega
          have q2 : (0 : Int) ≤ (p : Int) := by omega
          have q3 : (p : Int) < (n : Int) := by have := HM.out; have := HB.out; omega
          have q4 : (p : Int) + 1 < (n : Int) := by have := HM.out; have := HB.out; omega
          have q5 : (0 : Int) ≤ (p : Int) + 1 := by omega
          have t1 : ((p : Int) + 1).toNat = p + 1 := by omega
          have v1 : IntKind.i64.wrap (p : Int) = (p : Int) := IntWalk.i64_in _ (by omega)
          have v2 : IntKind.i64.wrap ((p : Int) + 1) = (p : Int) + 1 := IntWalk.i64_in _ (by omega)
          have HKT := hid hp
          have el := hid (show P ++ (X.take (t + 1) ++ y :: X.drop (t + 1) ++ Q) = (P ++ X.take t) ++ x :: y :: (X.drop (t + 1) ++ Q) by rw [List.take_succ_eq_append_getElem htX, ← hx]; simp)
          have hpl : p = (P ++ X.take t).length := by have := HA.out; rw [List.length_append, List.length_take]; omega
          have ex : (P ++ (X.take (t + 1) ++ y :: X.drop (t + 1) ++ Q))[p]? = some x := by rw [el.out]; exact at_mid hpl
          have ey : (P ++ (X.take (t + 1) ++ y :: X.drop (t + 1) ++ Q))[p + 1]? = some y := by
            rw [el.out]
            have h9 := at_mid (u := (P ++ X.take t) ++ [x]) (t := X.drop (t + 1) ++ Q) (x := y) (i := p + 1) (by rw [hpl]; simp only [List.length_append, List.length_singleton])
            simpa using h9
          have a0 : wr.cell? ⟨g, (p + 1) * 4, none⟩ = some (.int .i64 y.fDay) := DatAt.cell HDA.out hencV (f := 0) ey rfl
          have a1 : wr.cell? ⟨g, (p + 1) * 4 + 1, none⟩ = some (.string y.fWho) := DatAt.cell HDA.out hencV (f := 1) ey rfl
          have a2 : wr.cell? ⟨g, (p + 1) * 4 + 2, none⟩ = some (.int .i64 y.fKind) := DatAt.cell HDA.out hencV (f := 2) ey rfl
          have a3 : wr.cell? ⟨g, (p + 1) * 4 + 3, none⟩ = some (.int .i64 y.fAmount) := DatAt.cell HDA.out hencV (f := 3) ey rfl
          have b0 : wr.cell? ⟨g, p * 4, none⟩ = some (.int .i64 x.fDay) := DatAt.cell HDA.out hencV (f := 0) ex rfl
          have b1 : wr.cell? ⟨g, p * 4 + 1, none⟩ = some (.string x.fWho) := DatAt.cell HDA.out hencV (f := 1) ex rfl
          have b2 : wr.cell? ⟨g, p * 4 + 2, none⟩ = some (.int .i64 x.fKind) := DatAt.cell HDA.out hencV (f := 2) ex rfl
          have b3 : wr.cell? ⟨g, p * 4 + 3, none⟩ = some (.int .i64 x.fAmount) := DatAt.cell HDA.out hencV (f := 3) ex rfl
          have d0 : wr.frozen? ⟨g, (p + 1) * 4, none⟩ = false := World.ownsRow.frozenAt HDA.out _
          have d1 : wr.frozen? ⟨g, (p + 1) * 4 + 1, none⟩ = false := World.ownsRow.frozenAt HDA.out _
          have d2 : wr.frozen? ⟨g, (p + 1) * 4 + 2, none⟩ = false := World.ownsRow.frozenAt HDA.out _
          have d3 : wr.frozen? ⟨g, (p + 1) * 4 + 3, none⟩ = false := World.ownsRow.frozenAt HDA.out _
          have e0 : wr.frozen? ⟨g, p * 4, none⟩ = false := World.ownsRow.frozenAt HDA.out _
          have e1 : wr.frozen? ⟨g, p * 4 + 1, none⟩ = false := World.ownsRow.frozenAt HDA.out _
          have e2 : wr.frozen? ⟨g, p * 4 + 2, none⟩ = false := World.ownsRow.frozenAt HDA.out _
          have e3 : wr.frozen? ⟨g, p * 4 + 3, none⟩ = false := World.ownsRow.frozenAt HDA.out _
          have HEX := hid ex
          have HEY := hid ey
          have HPL := hid hpl
          have HXE := hid hx
          clear ex ey hpl hx hkt hp
          go_wp2_with fail
          refine wp_region_T (fun w' => w'.cell? ⟨g, (p + 1) * 4, none⟩ = some (.int .i64 y.fDay) ∧ w'.cell? ⟨g, (p + 1) * 4 + 1, none⟩ = some (.string y.fWho) ∧ w'.cell? ⟨g, (p + 1) * 4 + 2, none⟩ = some (.int .i64 y.fKind) ∧ w'.cell? ⟨g, (p + 1) * 4 + 3, none⟩ = some (.int .i64 y.fAmount) ∧ w'.cell? ⟨g, p * 4, none⟩ = some (.int .i64 x.fDay) ∧ w'.cell? ⟨g, p * 4 + 1, none⟩ = some (.string x.fWho) ∧ w'.cell? ⟨g, p * 4 + 2, none⟩ = some (.int .i64 x.fKind) ∧ w'.cell? ⟨g, p * 4 + 3, none⟩ = some (.int .i64 x.fAmount)) [15, 17] (by kernel_rfl) ⟨a0, a1, a2, a3, b0, b1, b2, b3⟩ (fun hHeld => ?_)
          refine wpAnyT_takeW (i := 0) (oi := ⟨some 113, _, _, _, _, _⟩) (v := ?_) rfl (by kernel_rfl) (by kernel_rfl) (by kernel_rfl) (by kernel_rfl) (fun _ _ _ h => h) (Or.inl ⟨by rfl, ?_⟩) (by assumption) ?_
          rotate_left
          · (intro w hSw; go_simp; try with_reducible rfl)
          try simp only [Act.put, List.setIfInBounds_toArray, List.set_cons_zero, List.set_cons_succ]
          refine wpAnyT_takeW (i := 1) (oi := ⟨some 114, _, _, _, _, _⟩) (v := ?_) rfl (by kernel_rfl) (by kernel_rfl) (by kernel_rfl) (by kernel_rfl) (fun _ _ _ h => h) (Or.inl ⟨by rfl, ?_⟩) (by assumption) ?_
          rotate_left
          · (intro w hSw; go_simp; try with_reducible rfl)
          try simp only [Act.put, List.setIfInBounds_toArray, List.set_cons_zero, List.set_cons_succ]
          refine wpAnyT_takeW (i := 2) (oi := ⟨some 115, _, _, _, _, _⟩) (v := ?_) rfl (by kernel_rfl) (by kernel_rfl) (by kernel_rfl) (by kernel_rfl) (fun _ _ _ h => h) (Or.inl ⟨by rfl, ?_⟩) (by assumption) ?_
          rotate_left
          · (intro w hSw; go_simp; try with_reducible rfl)
          try simp only [Act.put, List.setIfInBounds_toArray, List.set_cons_zero, List.set_cons_succ]
          refine wpAnyT_takeW (i := 3) (oi := ⟨some 116, _, _, _, _, _⟩) (v := ?_) rfl (by kernel_rfl) (by kernel_rfl) (by kernel_rfl) (by kernel_rfl) (fun _ _ _ h => h) (Or.inl ⟨by rfl, ?_⟩) (by assumption) ?_
          rotate_left
          · (intro w hSw; go_simp; try with_reducible rfl)
          try simp only [Act.put, List.setIfInBounds_toArray, List.set_cons_zero, List.set_cons_succ]
          refine wpAnyT_takeW (i := 4) (oi := ⟨some 117, _, _, _, _, _⟩) (v := ?_) rfl (by kernel_rfl) (by kernel_rfl) (by kernel_rfl) (by kernel_rfl) (fun _ _ _ h => h) (Or.inl ⟨by rfl, ?_⟩) (by assumption) ?_
          rotate_left
          · (intro w hSw; go_simp; try with_reducible rfl)
          try simp only [Act.put, List.setIfInBounds_toArray, List.set_cons_zero, List.set_cons_succ]
          refine wpAnyT_takeW (i := 5) (oi := ⟨some 118, _, _, _, _, _⟩) (v := ?_) rfl (by kernel_rfl) (by kernel_rfl) (by kernel_rfl) (by kernel_rfl) (fun _ _ _ h => h) (Or.inl ⟨by rfl, ?_⟩) (by assumption) ?_
          rotate_left
          · (intro w hSw; go_simp; try with_reducible rfl)
          try simp only [Act.put, List.setIfInBounds_toArray, List.set_cons_zero, List.set_cons_succ]
          refine wpAnyT_takeW (i := 6) (oi := ⟨some 119, _, _, _, _, _⟩) (v := ?_) rfl (by kernel_rfl) (by kernel_rfl) (by kernel_rfl) (by kernel_rfl) (fun _ _ _ h => h) (Or.inl ⟨by rfl, ?_⟩) (by assumption) ?_
          rotate_left
          · (intro w hSw; go_simp; try with_reducible rfl)
          try simp only [Act.put, List.setIfInBounds_toArray, List.set_cons_zero, List.set_cons_succ]
          refine wpAnyT_takeW (i := 7) (oi := ⟨some 120, _, _, _, _, _⟩) (v := ?_) rfl (by kernel_rfl) (by kernel_rfl) (by kernel_rfl) (by kernel_rfl) (fun _ _ _ h => h) (Or.inl ⟨by rfl, ?_⟩) (by assumption) ?_
          rotate_left
          · (intro w hSw; go_simp; try with_reducible rfl)
          try simp only [Act.put, List.setIfInBounds_toArray, List.set_cons_zero, List.set_cons_succ]
          refine wpAnyT_takeW (i := 8) (oi := ⟨some 121, _, _, _, _, _⟩) (v := ?_) rfl (by kernel_rfl) (by kernel_rfl) (by kernel_rfl) (by kernel_rfl) (fun _ _ _ h => h) (Or.inl ⟨by rfl, ?_⟩) (by assumption) ?_
          rotate_left
          · (intro w hSw; go_simp; try with_reducible rfl)
          try simp only [Act.put, List.setIfInBounds_toArray, List.set_cons_zero, List.set_cons_succ]
          refine wpAnyT_take (i := 9) (oi := ⟨some 122, _, _, _, _, _⟩) (v := ?_) rfl (by kernel_rfl) (by kernel_rfl) (by kernel_rfl) (by kernel_rfl) (by kernel_rfl) (by kernel_rfl) (fun _ _ _ h => h) (Or.inl ⟨by rfl, ?_⟩) (by assumption) ?_
          rotate_left
          · (intro w hSw; (try dsimp only at hSw); go_simp; try with_reducible rfl)
          try simp only [Act.put, List.setIfInBounds_toArray, List.set_cons_zero, List.set_cons_succ]
          refine wpAnyT_takeW (i := 10) (oi := ⟨some 123, _, _, _, _, _⟩) (v := ?_) rfl (by kernel_rfl) (by kernel_rfl) (by kernel_rfl) (by kernel_rfl) (fun _ _ _ h => h) (Or.inl ⟨by rfl, ?_⟩) (by assumption) ?_
          rotate_left
          · (intro w hSw; go_simp; try with_reducible rfl)
          try simp only [Act.put, List.setIfInBounds_toArray, List.set_cons_zero, List.set_cons_succ]
          refine wpAnyT_takeW (i := 11) (oi := ⟨some 124, _, _, _, _, _⟩) (v := ?_) rfl (by kernel_rfl) (by kernel_rfl) (by kernel_rfl) (by kernel_rfl) (fun _ _ _ h => h) (Or.inl ⟨by rfl, ?_⟩) (by assumption) ?_
          rotate_left
          · (intro w hSw; go_simp; try with_reducible rfl)
          try simp only [Act.put, List.setIfInBounds_toArray, List.set_cons_zero, List.set_cons_succ]
          refine wpAnyT_takeW (i := 12) (oi := ⟨some 125, _, _, _, _, _⟩) (v := ?_) rfl (by kernel_rfl) (by kernel_rfl) (by kernel_rfl) (by kernel_rfl) (fun _ _ _ h => h) (Or.inl ⟨by rfl, ?_⟩) (by assumption) ?_
          rotate_left
          · (intro w hSw; go_simp; try with_reducible rfl)
          try simp only [Act.put, List.setIfInBounds_toArray, List.set_cons_zero, List.set_cons_succ]
          refine wpAnyT_take (i := 13) (oi := ⟨some 126, _, _, _, _, _⟩) (v := ?_) rfl (by kernel_rfl) (by kernel_rfl) (by kernel_rfl) (by kernel_rfl) (by kernel_rfl) (by kernel_rfl) (fun _ _ _ h => h) (Or.inl ⟨by rfl, ?_⟩) (by assumption) ?_
          rotate_left
          · (intro w hSw; (try dsimp only at hSw); go_simp; try with_reducible rfl)
          try simp only [Act.put, List.setIfInBounds_toArray, List.set_cons_zero, List.set_cons_succ]
          refine wpAnyT_takeW (i := 14) (oi := ⟨some 127, _, _, _, _, _⟩) (v := ?_) rfl (by kernel_rfl) (by kernel_rfl) (by kernel_rfl) (by kernel_rfl) (fun _ _ _ h => h) (Or.inl ⟨by rfl, ?_⟩) (by assumption) ?_
          rotate_left
          · (intro w hSw; go_simp; try with_reducible rfl)
          try simp only [Act.put, List.setIfInBounds_toArray, List.set_cons_zero, List.set_cons_succ]
          refine wpAnyT_ready (rs := [15]) (by kernel_rfl) (by simp) ?_
          refine AllReadyT.consB (o := ⟨none, _, _, _, _, _⟩) rfl (by kernel_rfl) (fun K hK => ?_) AllReadyT.nil
          go_simp
          refine hK.out _ _ ?_
          clear hK K
          try simp only [Act.put, List.setIfInBounds_toArray, List.set_cons_zero, List.set_cons_succ]
          refine wpAnyT_takeV (i := 16) (oi := ⟨some 128, _, _, _, _, _⟩) (v := ?_) rfl (by kernel_rfl) (by kernel_rfl) (by kernel_rfl) (by kernel_rfl) (by kernel_rfl) (fun _ _ _ h => h) (Or.inl ⟨by rfl, ?_⟩) ?_
          rotate_left
          · (intro w hSw; go_simp; try with_reducible rfl)
          try simp only [Act.put, List.setIfInBounds_toArray, List.set_cons_zero, List.set_cons_succ]
          refine wpAnyT_ready (rs := [17]) (by kernel_rfl) (by simp) ?_
          refine AllReadyT.consB (o := ⟨none, _, _, _, _, _⟩) rfl (by kernel_rfl) (fun K hK => ?_) AllReadyT.nil
          go_simp
          refine hK.out _ _ ?_
          clear hK K
          try simp only [Act.put, List.setIfInBounds_toArray, List.set_cons_zero, List.set_cons_succ]
          refine wpAnyT_done (by kernel_rfl) ?_ _
          have HD7 := hid (show DatAt 76 4 DVisit.cells B g cap n (P ++ (X.take t ++ y :: X.drop t ++ Q)) ((((((((wr.setCell ⟨g, (p + 1) * 4, none⟩ (.int .i64 x.fDay)).setCell ⟨g, (p + 1) * 4 + 1, none⟩ (.string x.fWho)).setCell ⟨g, (p + 1) * 4 + 2, none⟩ (.int .i64 x.fKind)).setCell ⟨g, (p + 1) * 4 + 3, none⟩ (.int .i64 x.fAmount)).setCell ⟨g, p * 4, none⟩ (.int .i64 y.fDay)).setCell ⟨g, p * 4 + 1, none⟩ (.string y.fWho)).setCell ⟨g, p * 4 + 2, none⟩ (.int .i64 y.fKind)).setCell ⟨g, p * 4 + 3, none⟩ (.int .i64 y.fAmount)) by
            have h9 := DatAt.swap (w := wr) (i := p + 1) (j := p) (x := y) (y := x) HDA.out hencV (List.getElem?_eq_some_iff.1 HEY.out).1 (List.getElem?_eq_some_iff.1 HEX.out).1
            rw [el.out, swapWV] at h9
            have h8 := set_adj (u := P ++ X.take t) (t := X.drop (t + 1) ++ Q) (x := y) (y := x)
            rw [← HPL.out] at h8
            rw [h8] at h9
            have e6 : P ++ (X.take t ++ y :: X.drop t ++ Q) = (P ++ X.take t) ++ y :: x :: (X.drop (t + 1) ++ Q) := by rw [List.drop_eq_getElem_cons htX, ← HXE.out]; simp
            rw [e6]
            exact h9)
          have HC7 := hid (show Chg g (g + 1) w0 ((((((((wr.setCell ⟨g, (p + 1) * 4, none⟩ (.int .i64 x.fDay)).setCell ⟨g, (p + 1) * 4 + 1, none⟩ (.string x.fWho)).setCell ⟨g, (p + 1) * 4 + 2, none⟩ (.int .i64 x.fKind)).setCell ⟨g, (p + 1) * 4 + 3, none⟩ (.int .i64 x.fAmount)).setCell ⟨g, p * 4, none⟩ (.int .i64 y.fDay)).setCell ⟨g, p * 4 + 1, none⟩ (.string y.fWho)).setCell ⟨g, p * 4 + 2, none⟩ (.int .i64 y.fKind)).setCell ⟨g, p * 4 + 3, none⟩ (.int .i64 y.fAmount)) by
            rw [← swapWV]
            exact Chg.setCells (Nat.le_refl _) (by omega) _ (Chg.setCells (Nat.le_refl _) (by omega) _ HCH.out))
          go_wp2_with fail
          go_roundw
          case rel => exact ⟨p, t, by go_num, ⟨HKT.out, by omega, by omega⟩, HC7.out.then_below (Below.refl _ _).drew, HD7.out.drew⟩
          case measure => simp [intOf]
        · obtain rfl : r = S := by omega
          have q1 : ¬ (i : Int) < (k : Int) := by have := HI.out; omega
          go_wp2_with fail
          (try simp only [Exit.inBlock, Exit.then]); first | refine bodyPost_ret (results_none rfl _ _ _) rfl ?_ | refine bodyPost_end (results_none rfl _ _ _) rfl ?_
          exact ⟨rfl, X.take r ++ y :: X.drop r, HMG.out, HCH.out, HDA.out⟩

end Go.Proofs.Ytjeklbhdngkngaa
