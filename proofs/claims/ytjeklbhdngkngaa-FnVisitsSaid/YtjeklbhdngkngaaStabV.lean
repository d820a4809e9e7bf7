/- slices.SortStableFunc at impl.Visit: insertion sort, exchanges, a rotation. -/
import Derived.Test.YtjeklbhdngkngaaStab
import Derived.Test.YtjeklbhdngkngaaTVisit
import Derived.Test.YtjeklbhdngkngaaHeldT
import Derived.Deep.LoopGhost
import Derived.BigRegion
namespace Go.Proofs.Ytjeklbhdngkngaa
open Go.RowKit
set_option linter.unusedVariables false

theorem hencV (x : DVisit) : (DVisit.cells x).length = 4 := rfl
theorem swapWV (w : World) (g i j : Nat) (x y : DVisit) : (setCells (setCells w g (i * 4) (DVisit.cells y)) g (j * 4) (DVisit.cells x)) = ((((((((w.setCell ⟨g, i * 4, none⟩ (.int .i64 y.fDay)).setCell ⟨g, i * 4 + 1, none⟩ (.string y.fWho)).setCell ⟨g, i * 4 + 2, none⟩ (.int .i64 y.fKind)).setCell ⟨g, i * 4 + 3, none⟩ (.int .i64 y.fAmount)).setCell ⟨g, j * 4, none⟩ (.int .i64 x.fDay)).setCell ⟨g, j * 4 + 1, none⟩ (.string x.fWho)).setCell ⟨g, j * 4 + 2, none⟩ (.int .i64 x.fKind)).setCell ⟨g, j * 4 + 3, none⟩ (.int .i64 x.fAmount)) := by
  simp only [setCells, DVisit.cells, Nat.add_assoc, Nat.reduceAdd]
/-- the order is the keys' -/
def CmpV (key : DVisit → Int) (D : DVisit → Prop) (g : Nat) (w0 : World) : Prop := ∀ w, Chg g (g + 1) w0 w → ∀ x y, D x → D y → Calls Try.prog 98 #[.agg #[.int .i64 x.fDay, .string x.fWho, .int .i64 x.fKind, .int .i64 x.fAmount], .agg #[.int .i64 y.fDay, .string y.fWho, .int .i64 y.fKind, .int .i64 y.fAmount]] w fun e w' => e = .returned (.int .i64 (key x - key y)) ∧ Below w.heap.size w w'
/-- a stretch in order, all else as it was -/
def SortPostV (key : DVisit → Int) (B g cap n : Nat) (w0 : World) (P X Q : List DVisit) (e : Ending) (w' : World) : Prop := e = .returned (.tuple #[]) ∧ ∃ Z, (UpK key Z ∧ SameK key X Z) ∧ Chg g (g + 1) w0 w' ∧ DatAt 76 4 DVisit.cells B g cap n (P ++ Z ++ Q) w'

set_option maxHeartbeats 1600000 in
set_option maxRecDepth 100000 in
theorem insV_ok (key : DVisit → Int) (D : DVisit → Prop) (B g cap n : Nat) (w0 : World) (hC : CmpV key D g w0) (hg : g < w0.heap.size) (hn : n ≤ 1000) (P X Q : List DVisit) (a b : Nat) (ha : P.length = a) (hb : a + X.length = b) (hD : ∀ x ∈ (P ++ X ++ Q), D x) (w : World) (hch : Chg g (g + 1) w0 w) (hd : DatAt 76 4 DVisit.cells B g cap n (P ++ X ++ Q) w) :
    Calls Try.prog 162 #[.slice (some ⟨g, 0, none⟩) n cap, .int .i64 (a : Int), .int .i64 (b : Int), .func (.func 98) #[] #[]] w (SortPostV key B g cap n w0 P X Q) := by
  have HC := hid hC
  have HD := hid hD
  have HCH := hid hch
  have HDA := hid hd
  have hlen := hd.length hencV (by omega)
  simp only [List.length_append] at hlen
  have HA := hid ha
  have HB := hid hb
  have hbn : b ≤ n := by omega
  have hab : a ≤ b := by omega
  have HLEN := hid hlen
  clear hC hD hch hd hlen ha hb
  cases X with
  | nil =>
    have hba : ¬ (a : Int) + 1 < (b : Int) := by have := HB.out; simp only [List.length_nil] at this; omega
    go_enter Try.func162, Try.ntmps162
    go_wp2_with fail
    go_loopw [8] (fun i wr => i = .int .i64 ((a : Int) + 1) ∧ wr = w) (fun _ _ => 0)
    case atStart => exact ⟨rfl, rfl⟩
    case round =>
      obtain ⟨rfl, rfl⟩ := hrel
      go_wp2_with fail
      (try simp only [Exit.inBlock, Exit.then]); first | refine bodyPost_ret (results_none rfl _ _ _) rfl ?_ | refine bodyPost_end (results_none rfl _ _ _) rfl ?_
      exact ⟨rfl, [], ⟨UpK.nil _, SameK.refl _ _⟩, HCH.out, HDA.out⟩
  | cons x0 R0 =>
    go_enter Try.func162, Try.ntmps162
    go_wp2_with fail
    go_loopw [8] (fun i wr => ∃ (iv : Int) (Z R : List DVisit), (i = .int .i64 iv ∧ Aside (iv = ((a + Z.length : Nat) : Int))) ∧ (Z.length + R.length = (x0 :: R0).length) ∧ Hid (SameK key (x0 :: R0) (Z ++ R) ∧ UpK key Z) ∧ Chg g (g + 1) w0 wr ∧ DatAt 76 4 DVisit.cells B g cap n (P ++ (Z ++ R) ++ Q) wr) (fun i _ => b - (intOf i).toNat)
    case atStart => exact ⟨(a : Int) + 1, [x0], R0, ⟨rfl, by show _ = _; simp⟩, by simp; omega, ⟨SameK.refl _ _, UpK.one _ _⟩, HCH.out, HDA.out⟩
    case round =>
      clear HCH HDA
      obtain ⟨iv, Z, R, ⟨rfl, hiv⟩, hzl, HS, hch, hd⟩ := hrel
      have HCO := hid hch
      have HDO := hid hd
      have HIV := hid hiv.out
      clear hch hd hiv
      have hzb : a + Z.length + R.length = b := by have := HB.out; omega
      cases R with
      | nil =>
        have hlt : ¬ iv < (b : Int) := by have := HIV.out; simp only [List.length_nil] at hzb; omega
        have HS2 := hid (show UpK key Z ∧ SameK key (x0 :: R0) Z from ⟨HS.out.2, by have h9 := HS.out.1; rwa [List.append_nil] at h9⟩)
        have HDO := hid (show DatAt 76 4 DVisit.cells B g cap n (P ++ Z ++ Q) wr by have h9 := HDO.out; rwa [List.append_nil] at h9)
        clear HS
        go_wp2_with fail
        (try simp only [Exit.inBlock, Exit.then]); first | refine bodyPost_ret (results_none rfl _ _ _) rfl ?_ | refine bodyPost_end (results_none rfl _ _ _) rfl ?_
        exact ⟨rfl, Z, HS2.out, HCO.out, HDO.out⟩
      | cons x R =>
        rw [List.length_cons] at hzb hzl
        obtain ⟨i, hi⟩ : ∃ i : Nat, i = a + Z.length := ⟨_, rfl⟩
        obtain rfl : iv = (i : Int) := by have := HIV.out; omega
        have hlt : (i : Int) < (b : Int) := by omega
        have hib : i < b := by omega
        have HI := hid hi
        clear hi HIV
        go_wp2_with fail
        go_loopw [9] (fun v wr2 => ∃ (jv : Int) (Z1 Z2 : List DVisit), (v = .int .i64 jv ∧ Aside (jv = ((a + Z1.length : Nat) : Int))) ∧ Hid (Z1 ++ Z2 = Z ∧ ∀ y ∈ Z2, key x < key y) ∧ Chg g (g + 1) w0 wr2 ∧ DatAt 76 4 DVisit.cells B g cap n (P ++ (Z1 ++ x :: Z2 ++ R) ++ Q) wr2) (fun v _ => (intOf v).toNat)
        case atStart => exact ⟨(i : Int), Z, [], ⟨rfl, by show _ = _; have := HI.out; omega⟩, ⟨List.append_nil _, fun y hy => by cases hy⟩, HCO.out, by have h9 := HDO.out; simpa using h9⟩
        case round =>
          rename_i wr1
          clear HCO HDO
          obtain ⟨jv, Z1, Z2, ⟨rfl, hjv⟩, HZ, hch, hd⟩ := hrel
          have HCH := hid hch
          have HDA := hid hd
          have hgl : g < wr.heap.size := Nat.lt_of_lt_of_le hg hch.size
          have HJV := hid hjv.out
          clear hch hd hjv
          have hz12 : Z1.length + Z2.length = Z.length := by have := congrArg List.length HZ.out.1; rw [List.length_append] at this; exact this
          -- behind the inner loop
          have DONE : (∀ y ∈ Z1, key y ≤ key x) → UpK key (Z1 ++ x :: Z2) ∧ SameK key (x0 :: R0) ((Z1 ++ x :: Z2) ++ R) := fun h => by
            have h1 := ins_done (key := key) (z1 := Z1) (z2 := Z2) (x := x) (by rw [HZ.out.1]; exact HS.out.2) h HZ.out.2
            refine ⟨h1.1, HS.out.1.trans ?_⟩
            have h2 := h1.2.app (SameK.refl key R)
            rw [HZ.out.1, List.append_assoc] at h2
            exact h2
          have HDN := hid DONE
          clear DONE
          rcases List.eq_nil_or_concat Z1 with rfl | ⟨Z1', y, rfl⟩
          · obtain rfl : jv = (a : Int) := by have := HJV.out; simpa using this
            have HN := hid (HDN.out (fun y hy => by cases hy))
            have hcd : decide ((a : Int) > (a : Int)) = false := decide_eq_false (by omega)
            go_wp2_with fail
            refine wp_region_held_drew (S := (fun w' => True ∧ Below wr.heap.size wr w')) (by kernel_rfl) ⟨trivial, (Below.refl _ _).drew⟩ (fun hHeld => ?_)
            refine wpAnyH_take (i := 0) (oi := ⟨some 18, _, _, _, _, _⟩) (v := ?_) rfl (by kernel_rfl) (by kernel_rfl) (by kernel_rfl) (fun _ _ _ h => h) (Or.inl ⟨by rfl, ?_⟩) (by assumption) ?_
            rotate_left
            · (intro w hSw; (try dsimp only at hSw); go_simp; try with_reducible rfl)
            try simp only [Act.put, List.setIfInBounds_toArray, List.set_cons_zero, List.set_cons_succ]
            refine wpAnyH_take (i := 1) (oi := ⟨some 19, _, _, _, _, _⟩) (v := ?_) rfl (by kernel_rfl) (by kernel_rfl) (by kernel_rfl) (fun _ _ _ h => h) (Or.inl ⟨by rfl, ?_⟩) (by assumption) ?_
            rotate_left
            · (intro w hSw; (try dsimp only at hSw); go_simp; try with_reducible rfl)
            try simp only [Act.put, List.setIfInBounds_toArray, List.set_cons_zero, List.set_cons_succ]
            refine wpAnyH_take (i := 2) (oi := ⟨some 20, _, _, _, _, _⟩) (v := ?_) rfl (by kernel_rfl) (by kernel_rfl) (by kernel_rfl) (fun _ _ _ h => h) (Or.inl ⟨by rfl, ?_⟩) (by assumption) ?_
            rotate_left
            · (intro w hSw; (try dsimp only at hSw); go_simp; try with_reducible rfl)
            try simp only [Act.put, List.setIfInBounds_toArray, List.set_cons_zero, List.set_cons_succ]
            refine wpAnyH_take (i := 3) (oi := ⟨some 21, _, _, _, _, _⟩) (v := ?_) rfl (by kernel_rfl) (by kernel_rfl) (by kernel_rfl) (fun _ _ _ h => h) (Or.inl ⟨by rfl, ?_⟩) (by assumption) ?_
            rotate_left
            · (intro w hSw; (try dsimp only at hSw); go_simp; try with_reducible rfl)
            try simp only [Act.put, List.setIfInBounds_toArray, List.set_cons_zero, List.set_cons_succ]
            refine wpAnyH_take (i := 4) (oi := ⟨some 22, _, _, _, _, _⟩) (v := undef) rfl (by kernel_rfl) (by kernel_rfl) (by kernel_rfl) (fun _ _ _ h => h) (Or.inr ⟨by rfl, rfl⟩) (by assumption) ?_
            try simp only [Act.put, List.setIfInBounds_toArray, List.set_cons_zero, List.set_cons_succ]
            refine wpAnyH_take (i := 5) (oi := ⟨some 23, _, _, _, _, _⟩) (v := undef) rfl (by kernel_rfl) (by kernel_rfl) (by kernel_rfl) (fun _ _ _ h => h) (Or.inr ⟨by rfl, rfl⟩) (by assumption) ?_
            try simp only [Act.put, List.setIfInBounds_toArray, List.set_cons_zero, List.set_cons_succ]
            refine wpAnyH_take (i := 6) (oi := ⟨some 24, _, _, _, _, _⟩) (v := undef) rfl (by kernel_rfl) (by kernel_rfl) (by kernel_rfl) (fun _ _ _ h => h) (Or.inr ⟨by rfl, rfl⟩) (by assumption) ?_
            try simp only [Act.put, List.setIfInBounds_toArray, List.set_cons_zero, List.set_cons_succ]
            refine wpAnyH_take (i := 7) (oi := ⟨some 25, _, _, _, _, _⟩) (v := undef) rfl (by kernel_rfl) (by kernel_rfl) (by kernel_rfl) (fun _ _ _ h => h) (Or.inr ⟨by rfl, rfl⟩) (by assumption) ?_
            try simp only [Act.put, List.setIfInBounds_toArray, List.set_cons_zero, List.set_cons_succ]
            refine wpAnyH_take (i := 8) (oi := ⟨some 26, _, _, _, _, _⟩) (v := undef) rfl (by kernel_rfl) (by kernel_rfl) (by kernel_rfl) (fun _ _ _ h => h) (Or.inr ⟨by rfl, rfl⟩) (by assumption) ?_
            try simp only [Act.put, List.setIfInBounds_toArray, List.set_cons_zero, List.set_cons_succ]
            refine wpAnyH_take (i := 9) (oi := ⟨some 27, _, _, _, _, _⟩) (v := undef) rfl (by kernel_rfl) (by kernel_rfl) (by kernel_rfl) (fun _ _ _ h => h) (Or.inr ⟨by rfl, rfl⟩) (by assumption) ?_
            try simp only [Act.put, List.setIfInBounds_toArray, List.set_cons_zero, List.set_cons_succ]
            refine wpAnyH_take (i := 10) (oi := ⟨some 28, _, _, _, _, _⟩) (v := undef) rfl (by kernel_rfl) (by kernel_rfl) (by kernel_rfl) (fun _ _ _ h => h) (Or.inr ⟨by rfl, rfl⟩) (by assumption) ?_
            try simp only [Act.put, List.setIfInBounds_toArray, List.set_cons_zero, List.set_cons_succ]
            refine wpAnyH_take (i := 11) (oi := ⟨some 29, _, _, _, _, _⟩) (v := undef) rfl (by kernel_rfl) (by kernel_rfl) (by kernel_rfl) (fun _ _ _ h => h) (Or.inr ⟨by rfl, rfl⟩) (by assumption) ?_
            try simp only [Act.put, List.setIfInBounds_toArray, List.set_cons_zero, List.set_cons_succ]
            refine wpAnyH_take (i := 12) (oi := ⟨some 30, _, _, _, _, _⟩) (v := undef) rfl (by kernel_rfl) (by kernel_rfl) (by kernel_rfl) (fun _ _ _ h => h) (Or.inr ⟨by rfl, rfl⟩) (by assumption) ?_
            try simp only [Act.put, List.setIfInBounds_toArray, List.set_cons_zero, List.set_cons_succ]
            refine wpAnyH_take (i := 13) (oi := ⟨some 31, _, _, _, _, _⟩) (v := undef) rfl (by kernel_rfl) (by kernel_rfl) (by kernel_rfl) (fun _ _ _ h => h) (Or.inr ⟨by rfl, rfl⟩) (by assumption) ?_
            try simp only [Act.put, List.setIfInBounds_toArray, List.set_cons_zero, List.set_cons_succ]
            refine wpAnyH_take (i := 14) (oi := ⟨some 32, _, _, _, _, _⟩) (v := undef) rfl (by kernel_rfl) (by kernel_rfl) (by kernel_rfl) (fun _ _ _ h => h) (Or.inr ⟨by rfl, rfl⟩) (by assumption) ?_
            try simp only [Act.put, List.setIfInBounds_toArray, List.set_cons_zero, List.set_cons_succ]
            refine wpAnyH_take (i := 15) (oi := ⟨some 33, _, _, _, _, _⟩) (v := undef) rfl (by kernel_rfl) (by kernel_rfl) (by kernel_rfl) (fun _ _ _ h => h) (Or.inr ⟨by rfl, rfl⟩) (by assumption) ?_
            try simp only [Act.put, List.setIfInBounds_toArray, List.set_cons_zero, List.set_cons_succ]
            refine wpAnyH_take (i := 16) (oi := ⟨some 34, _, _, _, _, _⟩) (v := ?_) rfl (by kernel_rfl) (by kernel_rfl) (by kernel_rfl) (fun _ _ _ h => h) (Or.inl ⟨by rfl, ?_⟩) (by assumption) ?_
            rotate_left
            · (intro w hSw; (try dsimp only at hSw); go_simp; try with_reducible rfl)
            try simp only [Act.put, List.setIfInBounds_toArray, List.set_cons_zero, List.set_cons_succ]
            refine wpAnyH_done (by kernel_rfl) ?_ _
            go_wp2_with fail
            go_roundw
            case rel => exact ⟨(i : Int) + 1, _, R, ⟨rfl, by show _ = _; have := HI.out; simp only [List.length_append, List.length_cons, List.length_nil] at hz12 ⊢; omega⟩, by simp only [List.length_append, List.length_cons, List.length_nil] at hz12 hzl ⊢; omega, ⟨HN.out.2, HN.out.1⟩, HCH.out.then_below (Below.refl _ _).drew, DatAt.below HDA.out (Below.refl _ _).drew⟩
            case measure => simp [intOf]; omega
          · have HZL := hid hz12
            rw [List.length_concat] at hz12
            obtain ⟨p, hp⟩ : ∃ p : Nat, p = a + Z1'.length := ⟨_, rfl⟩
            obtain rfl : jv = (p : Int) + 1 := by have := HJV.out; rw [List.length_concat] at this; omega
            have hpn : p + 1 < n := by omega
            have hja : (a : Int) < (p : Int) + 1 := by omega
            have q0 : (0 : Int) ≤ (p : Int) := by omega
            have q1 : (p : Int) < (n : Int) := by omega
            have q2 : (p : Int) + 1 < (n : Int) := by omega
            have q3 : (0 : Int) ≤ (p : Int) + 1 := by omega
            have t1 : ((p : Int) + 1).toNat = p + 1 := by omega
            have v1 : IntKind.i64.wrap (p : Int) = (p : Int) := IntWalk.i64_in _ (by omega)
            have v2 : IntKind.i64.wrap ((p : Int) + 1) = (p : Int) + 1 := IntWalk.i64_in _ (by omega)
            have ex : (P ++ (Z1'.concat y ++ x :: Z2 ++ R) ++ Q)[p + 1]? = some x := by
              have := at_mid (u := P ++ Z1' ++ [y]) (t := Z2 ++ R ++ Q) (x := x) (i := p + 1) (by have := HA.out; simp; omega)
              simpa using this
            have ey : (P ++ (Z1'.concat y ++ x :: Z2 ++ R) ++ Q)[p]? = some y := by
              have := at_mid (u := P ++ Z1') (t := x :: Z2 ++ R ++ Q) (x := y) (i := p) (by have := HA.out; simp; omega)
              simpa using this
            have a0 : wr.cell? ⟨g, (p + 1) * 4, none⟩ = some (.int .i64 x.fDay) := DatAt.cell HDA.out hencV (f := 0) ex rfl
            have a1 : wr.cell? ⟨g, (p + 1) * 4 + 1, none⟩ = some (.string x.fWho) := DatAt.cell HDA.out hencV (f := 1) ex rfl
            have a2 : wr.cell? ⟨g, (p + 1) * 4 + 2, none⟩ = some (.int .i64 x.fKind) := DatAt.cell HDA.out hencV (f := 2) ex rfl
            have a3 : wr.cell? ⟨g, (p + 1) * 4 + 3, none⟩ = some (.int .i64 x.fAmount) := DatAt.cell HDA.out hencV (f := 3) ex rfl
            have b0 : wr.cell? ⟨g, p * 4, none⟩ = some (.int .i64 y.fDay) := DatAt.cell HDA.out hencV (f := 0) ey rfl
            have b1 : wr.cell? ⟨g, p * 4 + 1, none⟩ = some (.string y.fWho) := DatAt.cell HDA.out hencV (f := 1) ey rfl
            have b2 : wr.cell? ⟨g, p * 4 + 2, none⟩ = some (.int .i64 y.fKind) := DatAt.cell HDA.out hencV (f := 2) ey rfl
            have b3 : wr.cell? ⟨g, p * 4 + 3, none⟩ = some (.int .i64 y.fAmount) := DatAt.cell HDA.out hencV (f := 3) ey rfl
            have hdx : D x := HD.out x (HS.out.1.mem (x := x) (by simp) |> fun h => by simp only [List.mem_append]; exact .inl (.inr h))
            have hdy : D y := HD.out y (HS.out.1.mem (x := y) (by rw [← HZ.out.1]; simp) |> fun h => by simp only [List.mem_append]; exact .inl (.inr h))
            have HX := hid ex
            have HY := hid ey
            have HP := hid hp
            clear ex ey hp
            by_cases hk : key x < key y
            · have hk2 : key x - key y < 0 := by omega
              have hk3 := hid hk
              clear hk
              go_wp2_with fail
              refine wp_region_held_drew (S := (fun w' => (True ∧ Below wr.heap.size wr w') ∧ w'.cell? ⟨g, (p + 1) * 4, none⟩ = some (.int .i64 x.fDay) ∧ w'.cell? ⟨g, (p + 1) * 4 + 1, none⟩ = some (.string x.fWho) ∧ w'.cell? ⟨g, (p + 1) * 4 + 2, none⟩ = some (.int .i64 x.fKind) ∧ w'.cell? ⟨g, (p + 1) * 4 + 3, none⟩ = some (.int .i64 x.fAmount) ∧ w'.cell? ⟨g, p * 4, none⟩ = some (.int .i64 y.fDay) ∧ w'.cell? ⟨g, p * 4 + 1, none⟩ = some (.string y.fWho) ∧ w'.cell? ⟨g, p * 4 + 2, none⟩ = some (.int .i64 y.fKind) ∧ w'.cell? ⟨g, p * 4 + 3, none⟩ = some (.int .i64 y.fAmount))) (by kernel_rfl) ⟨⟨trivial, (Below.refl _ _).drew⟩, a0, a1, a2, a3, b0, b1, b2, b3⟩ (fun hHeld => ?_)
              refine wpAnyH_take (i := 0) (oi := ⟨some 18, _, _, _, _, _⟩) (v := ?_) rfl (by kernel_rfl) (by kernel_rfl) (by kernel_rfl) (fun _ _ _ h => h) (Or.inl ⟨by rfl, ?_⟩) (by assumption) ?_
              rotate_left
              · (intro w hSw; (try dsimp only at hSw); go_simp; try with_reducible rfl)
              try simp only [Act.put, List.setIfInBounds_toArray, List.set_cons_zero, List.set_cons_succ]
              refine wpAnyH_take (i := 1) (oi := ⟨some 19, _, _, _, _, _⟩) (v := ?_) rfl (by kernel_rfl) (by kernel_rfl) (by kernel_rfl) (fun _ _ _ h => h) (Or.inl ⟨by rfl, ?_⟩) (by assumption) ?_
              rotate_left
              · (intro w hSw; (try dsimp only at hSw); go_simp; try with_reducible rfl)
              try simp only [Act.put, List.setIfInBounds_toArray, List.set_cons_zero, List.set_cons_succ]
              refine wpAnyH_take (i := 2) (oi := ⟨some 20, _, _, _, _, _⟩) (v := ?_) rfl (by kernel_rfl) (by kernel_rfl) (by kernel_rfl) (fun _ _ _ h => h) (Or.inl ⟨by rfl, ?_⟩) (by assumption) ?_
              rotate_left
              · (intro w hSw; (try dsimp only at hSw); go_simp; try with_reducible rfl)
              try simp only [Act.put, List.setIfInBounds_toArray, List.set_cons_zero, List.set_cons_succ]
              refine wpAnyH_take (i := 3) (oi := ⟨some 21, _, _, _, _, _⟩) (v := ?_) rfl (by kernel_rfl) (by kernel_rfl) (by kernel_rfl) (fun _ _ _ h => h) (Or.inl ⟨by rfl, ?_⟩) (by assumption) ?_
              rotate_left
              · (intro w hSw; (try dsimp only at hSw); go_simp; try with_reducible rfl)
              try simp only [Act.put, List.setIfInBounds_toArray, List.set_cons_zero, List.set_cons_succ]
              refine wpAnyH_take (i := 4) (oi := ⟨some 22, _, _, _, _, _⟩) (v := ?_) rfl (by kernel_rfl) (by kernel_rfl) (by kernel_rfl) (fun _ _ _ h => h) (Or.inl ⟨by rfl, ?_⟩) (by assumption) ?_
              rotate_left
              · (intro w hSw; (try dsimp only at hSw); go_simp; try with_reducible rfl)
              try simp only [Act.put, List.setIfInBounds_toArray, List.set_cons_zero, List.set_cons_succ]
              refine wpAnyH_take (i := 5) (oi := ⟨some 23, _, _, _, _, _⟩) (v := ?_) rfl (by kernel_rfl) (by kernel_rfl) (by kernel_rfl) (fun _ _ _ h => h) (Or.inl ⟨by rfl, ?_⟩) (by assumption) ?_
              rotate_left
              · (intro w hSw; (try dsimp only at hSw); go_simp; try with_reducible rfl)
              try simp only [Act.put, List.setIfInBounds_toArray, List.set_cons_zero, List.set_cons_succ]
              refine wpAnyH_take (i := 6) (oi := ⟨some 24, _, _, _, _, _⟩) (v := ?_) rfl (by kernel_rfl) (by kernel_rfl) (by kernel_rfl) (fun _ _ _ h => h) (Or.inl ⟨by rfl, ?_⟩) (by assumption) ?_
              rotate_left
              · (intro w hSw; (try dsimp only at hSw); go_simp; try with_reducible rfl)
              try simp only [Act.put, List.setIfInBounds_toArray, List.set_cons_zero, List.set_cons_succ]
              refine wpAnyH_take (i := 7) (oi := ⟨some 25, _, _, _, _, _⟩) (v := ?_) rfl (by kernel_rfl) (by kernel_rfl) (by kernel_rfl) (fun _ _ _ h => h) (Or.inl ⟨by rfl, ?_⟩) (by assumption) ?_
              rotate_left
              · (intro w hSw; (try dsimp only at hSw); go_simp; try with_reducible rfl)
              try simp only [Act.put, List.setIfInBounds_toArray, List.set_cons_zero, List.set_cons_succ]
              refine wpAnyH_take (i := 8) (oi := ⟨some 26, _, _, _, _, _⟩) (v := ?_) rfl (by kernel_rfl) (by kernel_rfl) (by kernel_rfl) (fun _ _ _ h => h) (Or.inl ⟨by rfl, ?_⟩) (by assumption) ?_
              rotate_left
              · (intro w hSw; (try dsimp only at hSw); go_simp; try with_reducible rfl)
              try simp only [Act.put, List.setIfInBounds_toArray, List.set_cons_zero, List.set_cons_succ]
              refine wpAnyH_take (i := 9) (oi := ⟨some 27, _, _, _, _, _⟩) (v := ?_) rfl (by kernel_rfl) (by kernel_rfl) (by kernel_rfl) (fun _ _ _ h => h) (Or.inl ⟨by rfl, ?_⟩) (by assumption) ?_
              rotate_left
              · (intro w hSw; (try dsimp only at hSw); go_simp; try with_reducible rfl)
              try simp only [Act.put, List.setIfInBounds_toArray, List.set_cons_zero, List.set_cons_succ]
              refine wpAnyH_take (i := 10) (oi := ⟨some 28, _, _, _, _, _⟩) (v := ?_) rfl (by kernel_rfl) (by kernel_rfl) (by kernel_rfl) (fun _ _ _ h => h) (Or.inl ⟨by rfl, ?_⟩) (by assumption) ?_
              rotate_left
              · (intro w hSw; (try dsimp only at hSw); go_simp; try with_reducible rfl)
              try simp only [Act.put, List.setIfInBounds_toArray, List.set_cons_zero, List.set_cons_succ]
              refine wpAnyH_take (i := 11) (oi := ⟨some 29, _, _, _, _, _⟩) (v := ?_) rfl (by kernel_rfl) (by kernel_rfl) (by kernel_rfl) (fun _ _ _ h => h) (Or.inl ⟨by rfl, ?_⟩) (by assumption) ?_
              rotate_left
              · (intro w hSw; (try dsimp only at hSw); go_simp; try with_reducible rfl)
              try simp only [Act.put, List.setIfInBounds_toArray, List.set_cons_zero, List.set_cons_succ]
              refine wpAnyH_take (i := 12) (oi := ⟨some 30, _, _, _, _, _⟩) (v := ?_) rfl (by kernel_rfl) (by kernel_rfl) (by kernel_rfl) (fun _ _ _ h => h) (Or.inl ⟨by rfl, ?_⟩) (by assumption) ?_
              rotate_left
              · (intro w hSw; (try dsimp only at hSw); go_simp; try with_reducible rfl)
              try simp only [Act.put, List.setIfInBounds_toArray, List.set_cons_zero, List.set_cons_succ]
              refine wpAnyH_take (i := 13) (oi := ⟨some 31, _, _, _, _, _⟩) (v := ?_) rfl (by kernel_rfl) (by kernel_rfl) (by kernel_rfl) (fun _ _ _ h => h) (Or.inl ⟨by rfl, ?_⟩) (by assumption) ?_
              rotate_left
              · (intro w hSw; (try dsimp only at hSw); go_simp; try with_reducible rfl)
              try simp only [Act.put, List.setIfInBounds_toArray, List.set_cons_zero, List.set_cons_succ]
              refine wpAnyH_ready (rs := [14]) (by kernel_rfl) (by simp) ?_
              refine AllReadyH.cons (o := ⟨some 32, _, _, _, _, _⟩) rfl (fun K hK => ?_) AllReadyH.nil
              go_simp
              go_at_call 98; refine (HC.out _ (HCH.out.then_below hHeld.1.2) x y hdx hdy).mono ?_; rintro e w6 ⟨rfl, hb6⟩
              (try go_wp2_with fail)
              refine hK.out _ _ (keepM8 hgl hgl hgl hgl hgl hgl hgl hgl ‹_ ∧ _› hb6) (fun hHeld => ?_)
              clear hK K
              try simp only [Act.put, List.setIfInBounds_toArray, List.set_cons_zero, List.set_cons_succ]
              refine wpAnyH_take (i := 15) (oi := ⟨some 33, _, _, _, _, _⟩) (v := ?_) rfl (by kernel_rfl) (by kernel_rfl) (by kernel_rfl) (fun _ _ _ h => h) (Or.inl ⟨by rfl, ?_⟩) (by assumption) ?_
              rotate_left
              · (intro w hSw; (try dsimp only at hSw); go_simp; try with_reducible rfl)
              try simp only [Act.put, List.setIfInBounds_toArray, List.set_cons_zero, List.set_cons_succ]
              refine wpAnyH_take (i := 16) (oi := ⟨some 34, _, _, _, _, _⟩) (v := ?_) rfl (by kernel_rfl) (by kernel_rfl) (by kernel_rfl) (fun _ _ _ h => h) (Or.inl ⟨by rfl, ?_⟩) (by assumption) ?_
              rotate_left
              · (intro w hSw; (try dsimp only at hSw); go_simp; try with_reducible rfl)
              try simp only [Act.put, List.setIfInBounds_toArray, List.set_cons_zero, List.set_cons_succ]
              refine wpAnyH_done (by kernel_rfl) ?_ _
              go_wp2_with fail
              obtain ⟨⟨-, hBw⟩, c0, c1, c2, c3, c4, c5, c6, c7⟩ := hHeld
              have HDA6 := hid (DatAt.below HDA.out hBw)
              have HCH6 := hid (HCH.out.then_below hBw)
              clear a0 a1 a2 a3 b0 b1 b2 b3 hb6
              have a0 := c0
              have a1 := c1
              have a2 := c2
              have a3 := c3
              have b0 := c4
              have b1 := c5
              have b2 := c6
              have b3 := c7
              clear c0 c1 c2 c3 c4 c5 c6 c7
              have d0 : w6.frozen? ⟨g, (p + 1) * 4, none⟩ = false := World.ownsRow.frozenAt HDA6.out _
              have d1 : w6.frozen? ⟨g, (p + 1) * 4 + 1, none⟩ = false := World.ownsRow.frozenAt HDA6.out _
              have d2 : w6.frozen? ⟨g, (p + 1) * 4 + 2, none⟩ = false := World.ownsRow.frozenAt HDA6.out _
              have d3 : w6.frozen? ⟨g, (p + 1) * 4 + 3, none⟩ = false := World.ownsRow.frozenAt HDA6.out _
              have e0 : w6.frozen? ⟨g, p * 4, none⟩ = false := World.ownsRow.frozenAt HDA6.out _
              have e1 : w6.frozen? ⟨g, p * 4 + 1, none⟩ = false := World.ownsRow.frozenAt HDA6.out _
              have e2 : w6.frozen? ⟨g, p * 4 + 2, none⟩ = false := World.ownsRow.frozenAt HDA6.out _
              have e3 : w6.frozen? ⟨g, p * 4 + 3, none⟩ = false := World.ownsRow.frozenAt HDA6.out _
              refine wp_region_T (fun w' => w'.cell? ⟨g, (p + 1) * 4, none⟩ = some (.int .i64 x.fDay) ∧ w'.cell? ⟨g, (p + 1) * 4 + 1, none⟩ = some (.string x.fWho) ∧ w'.cell? ⟨g, (p + 1) * 4 + 2, none⟩ = some (.int .i64 x.fKind) ∧ w'.cell? ⟨g, (p + 1) * 4 + 3, none⟩ = some (.int .i64 x.fAmount) ∧ w'.cell? ⟨g, p * 4, none⟩ = some (.int .i64 y.fDay) ∧ w'.cell? ⟨g, p * 4 + 1, none⟩ = some (.string y.fWho) ∧ w'.cell? ⟨g, p * 4 + 2, none⟩ = some (.int .i64 y.fKind) ∧ w'.cell? ⟨g, p * 4 + 3, none⟩ = some (.int .i64 y.fAmount)) [15, 17] (by kernel_rfl) ⟨a0, a1, a2, a3, b0, b1, b2, b3⟩ (fun hHeld => ?_)
              refine wpAnyT_takeW (i := 0) (oi := ⟨some 37, _, _, _, _, _⟩) (v := ?_) rfl (by kernel_rfl) (by kernel_rfl) (by kernel_rfl) (by kernel_rfl) (fun _ _ _ h => h) (Or.inl ⟨by rfl, ?_⟩) (by assumption) ?_
              rotate_left
              · (intro w hSw; go_simp; try with_reducible rfl)
              try simp only [Act.put, List.setIfInBounds_toArray, List.set_cons_zero, List.set_cons_succ]
              refine wpAnyT_takeW (i := 1) (oi := ⟨some 38, _, _, _, _, _⟩) (v := ?_) rfl (by kernel_rfl) (by kernel_rfl) (by kernel_rfl) (by kernel_rfl) (fun _ _ _ h => h) (Or.inl ⟨by rfl, ?_⟩) (by assumption) ?_
              rotate_left
              · (intro w hSw; go_simp; try with_reducible rfl)
              try simp only [Act.put, List.setIfInBounds_toArray, List.set_cons_zero, List.set_cons_succ]
              refine wpAnyT_takeW (i := 2) (oi := ⟨some 39, _, _, _, _, _⟩) (v := ?_) rfl (by kernel_rfl) (by kernel_rfl) (by kernel_rfl) (by kernel_rfl) (fun _ _ _ h => h) (Or.inl ⟨by rfl, ?_⟩) (by assumption) ?_
              rotate_left
              · (intro w hSw; go_simp; try with_reducible rfl)
              try simp only [Act.put, List.setIfInBounds_toArray, List.set_cons_zero, List.set_cons_succ]
              refine wpAnyT_takeW (i := 3) (oi := ⟨some 40, _, _, _, _, _⟩) (v := ?_) rfl (by kernel_rfl) (by kernel_rfl) (by kernel_rfl) (by kernel_rfl) (fun _ _ _ h => h) (Or.inl ⟨by rfl, ?_⟩) (by assumption) ?_
              rotate_left
              · (intro w hSw; go_simp; try with_reducible rfl)
              try simp only [Act.put, List.setIfInBounds_toArray, List.set_cons_zero, List.set_cons_succ]
              refine wpAnyT_takeW (i := 4) (oi := ⟨some 41, _, _, _, _, _⟩) (v := ?_) rfl (by kernel_rfl) (by kernel_rfl) (by kernel_rfl) (by kernel_rfl) (fun _ _ _ h => h) (Or.inl ⟨by rfl, ?_⟩) (by assumption) ?_
              rotate_left
              · (intro w hSw; go_simp; try with_reducible rfl)
              try simp only [Act.put, List.setIfInBounds_toArray, List.set_cons_zero, List.set_cons_succ]
              refine wpAnyT_takeW (i := 5) (oi := ⟨some 42, _, _, _, _, _⟩) (v := ?_) rfl (by kernel_rfl) (by kernel_rfl) (by kernel_rfl) (by kernel_rfl) (fun _ _ _ h => h) (Or.inl ⟨by rfl, ?_⟩) (by assumption) ?_
              rotate_left
              · (intro w hSw; go_simp; try with_reducible rfl)
              try simp only [Act.put, List.setIfInBounds_toArray, List.set_cons_zero, List.set_cons_succ]
              refine wpAnyT_takeW (i := 6) (oi := ⟨some 43, _, _, _, _, _⟩) (v := ?_) rfl (by kernel_rfl) (by kernel_rfl) (by kernel_rfl) (by kernel_rfl) (fun _ _ _ h => h) (Or.inl ⟨by rfl, ?_⟩) (by assumption) ?_
              rotate_left
              · (intro w hSw; go_simp; try with_reducible rfl)
              try simp only [Act.put, List.setIfInBounds_toArray, List.set_cons_zero, List.set_cons_succ]
              refine wpAnyT_takeW (i := 7) (oi := ⟨some 44, _, _, _, _, _⟩) (v := ?_) rfl (by kernel_rfl) (by kernel_rfl) (by kernel_rfl) (by kernel_rfl) (fun _ _ _ h => h) (Or.inl ⟨by rfl, ?_⟩) (by assumption) ?_
              rotate_left
              · (intro w hSw; go_simp; try with_reducible rfl)
              try simp only [Act.put, List.setIfInBounds_toArray, List.set_cons_zero, List.set_cons_succ]
              refine wpAnyT_takeW (i := 8) (oi := ⟨some 45, _, _, _, _, _⟩) (v := ?_) rfl (by kernel_rfl) (by kernel_rfl) (by kernel_rfl) (by kernel_rfl) (fun _ _ _ h => h) (Or.inl ⟨by rfl, ?_⟩) (by assumption) ?_
              rotate_left
              · (intro w hSw; go_simp; try with_reducible rfl)
              try simp only [Act.put, List.setIfInBounds_toArray, List.set_cons_zero, List.set_cons_succ]
              refine wpAnyT_take (i := 9) (oi := ⟨some 46, _, _, _, _, _⟩) (v := ?_) rfl (by kernel_rfl) (by kernel_rfl) (by kernel_rfl) (by kernel_rfl) (by kernel_rfl) (by kernel_rfl) (fun _ _ _ h => h) (Or.inl ⟨by rfl, ?_⟩) (by assumption) ?_
              rotate_left
              · (intro w hSw; (try dsimp only at hSw); go_simp; try with_reducible rfl)
              try simp only [Act.put, List.setIfInBounds_toArray, List.set_cons_zero, List.set_cons_succ]
              refine wpAnyT_takeW (i := 10) (oi := ⟨some 47, _, _, _, _, _⟩) (v := ?_) rfl (by kernel_rfl) (by kernel_rfl) (by kernel_rfl) (by kernel_rfl) (fun _ _ _ h => h) (Or.inl ⟨by rfl, ?_⟩) (by assumption) ?_
              rotate_left
              · (intro w hSw; go_simp; try with_reducible rfl)
              try simp only [Act.put, List.setIfInBounds_toArray, List.set_cons_zero, List.set_cons_succ]
              refine wpAnyT_takeW (i := 11) (oi := ⟨some 48, _, _, _, _, _⟩) (v := ?_) rfl (by kernel_rfl) (by kernel_rfl) (by kernel_rfl) (by kernel_rfl) (fun _ _ _ h => h) (Or.inl ⟨by rfl, ?_⟩) (by assumption) ?_
              rotate_left
              · (intro w hSw; go_simp; try with_reducible rfl)
              try simp only [Act.put, List.setIfInBounds_toArray, List.set_cons_zero, List.set_cons_succ]
              refine wpAnyT_takeW (i := 12) (oi := ⟨some 49, _, _, _, _, _⟩) (v := ?_) rfl (by kernel_rfl) (by kernel_rfl) (by kernel_rfl) (by kernel_rfl) (fun _ _ _ h => h) (Or.inl ⟨by rfl, ?_⟩) (by assumption) ?_
              rotate_left
              · (intro w hSw; go_simp; try with_reducible rfl)
              try simp only [Act.put, List.setIfInBounds_toArray, List.set_cons_zero, List.set_cons_succ]
              refine wpAnyT_take (i := 13) (oi := ⟨some 50, _, _, _, _, _⟩) (v := ?_) rfl (by kernel_rfl) (by kernel_rfl) (by kernel_rfl) (by kernel_rfl) (by kernel_rfl) (by kernel_rfl) (fun _ _ _ h => h) (Or.inl ⟨by rfl, ?_⟩) (by assumption) ?_
              rotate_left
              · (intro w hSw; (try dsimp only at hSw); go_simp; try with_reducible rfl)
              try simp only [Act.put, List.setIfInBounds_toArray, List.set_cons_zero, List.set_cons_succ]
              refine wpAnyT_takeW (i := 14) (oi := ⟨some 51, _, _, _, _, _⟩) (v := ?_) rfl (by kernel_rfl) (by kernel_rfl) (by kernel_rfl) (by kernel_rfl) (fun _ _ _ h => h) (Or.inl ⟨by rfl, ?_⟩) (by assumption) ?_
              rotate_left
              · (intro w hSw; go_simp; try with_reducible rfl)
              try simp only [Act.put, List.setIfInBounds_toArray, List.set_cons_zero, List.set_cons_succ]
              refine wpAnyT_ready (rs := [15]) (by kernel_rfl) (by simp) ?_
              refine AllReadyT.consB (o := ⟨none, _, _, _, _, _⟩) rfl (by kernel_rfl) (fun K hK => ?_) AllReadyT.nil
              go_simp
              refine hK.out _ _ ?_
              clear hK K
              try simp only [Act.put, List.setIfInBounds_toArray, List.set_cons_zero, List.set_cons_succ]
              refine wpAnyT_takeV (i := 16) (oi := ⟨some 52, _, _, _, _, _⟩) (v := ?_) rfl (by kernel_rfl) (by kernel_rfl) (by kernel_rfl) (by kernel_rfl) (by kernel_rfl) (fun _ _ _ h => h) (Or.inl ⟨by rfl, ?_⟩) ?_
              rotate_left
              · (intro w hSw; go_simp; try with_reducible rfl)
              try simp only [Act.put, List.setIfInBounds_toArray, List.set_cons_zero, List.set_cons_succ]
              refine wpAnyT_ready (rs := [17]) (by kernel_rfl) (by simp) ?_
              refine AllReadyT.consB (o := ⟨none, _, _, _, _, _⟩) rfl (by kernel_rfl) (fun K hK => ?_) AllReadyT.nil
              go_simp
              refine hK.out _ _ ?_
              clear hK K
              try simp only [Act.put, List.setIfInBounds_toArray, List.set_cons_zero, List.set_cons_succ]
              refine wpAnyT_done (by kernel_rfl) ?_ _
              have HD7 := hid (show DatAt 76 4 DVisit.cells B g cap n (P ++ (Z1' ++ x :: (y :: Z2) ++ R) ++ Q) ((((((((w6.setCell ⟨g, (p + 1) * 4, none⟩ (.int .i64 y.fDay)).setCell ⟨g, (p + 1) * 4 + 1, none⟩ (.string y.fWho)).setCell ⟨g, (p + 1) * 4 + 2, none⟩ (.int .i64 y.fKind)).setCell ⟨g, (p + 1) * 4 + 3, none⟩ (.int .i64 y.fAmount)).setCell ⟨g, p * 4, none⟩ (.int .i64 x.fDay)).setCell ⟨g, p * 4 + 1, none⟩ (.string x.fWho)).setCell ⟨g, p * 4 + 2, none⟩ (.int .i64 x.fKind)).setCell ⟨g, p * 4 + 3, none⟩ (.int .i64 x.fAmount)) by
                have h9 := DatAt.swap (w := w6) (i := p + 1) (j := p) (x := x) (y := y) HDA6.out hencV (List.getElem?_eq_some_iff.1 HX.out).1 (List.getElem?_eq_some_iff.1 HY.out).1
                have e9 : P ++ (Z1'.concat y ++ x :: Z2 ++ R) ++ Q = (P ++ Z1') ++ y :: x :: (Z2 ++ R ++ Q) := by simp
                have e8 : p = (P ++ Z1').length := by have := HA.out; have := HP.out; rw [List.length_append]; omega
                rw [e9] at h9
                simp only [e8] at h9 ⊢
                rw [set_adj] at h9
                have e7 : P ++ (Z1' ++ x :: (y :: Z2) ++ R) ++ Q = (P ++ Z1') ++ x :: y :: (Z2 ++ R ++ Q) := by simp
                rw [e7]
                rw [swapWV] at h9
                exact h9)
              have HC7 := hid (show Chg g (g + 1) w0 ((((((((w6.setCell ⟨g, (p + 1) * 4, none⟩ (.int .i64 y.fDay)).setCell ⟨g, (p + 1) * 4 + 1, none⟩ (.string y.fWho)).setCell ⟨g, (p + 1) * 4 + 2, none⟩ (.int .i64 y.fKind)).setCell ⟨g, (p + 1) * 4 + 3, none⟩ (.int .i64 y.fAmount)).setCell ⟨g, p * 4, none⟩ (.int .i64 x.fDay)).setCell ⟨g, p * 4 + 1, none⟩ (.string x.fWho)).setCell ⟨g, p * 4 + 2, none⟩ (.int .i64 x.fKind)).setCell ⟨g, p * 4 + 3, none⟩ (.int .i64 x.fAmount)) by
                rw [← swapWV]
                exact Chg.setCells (Nat.le_refl _) (by omega) _ (Chg.setCells (Nat.le_refl _) (by omega) _ HCH6.out))
              have HZ7 := hid (show Z1' ++ (y :: Z2) = Z ∧ ∀ z ∈ y :: Z2, key x < key z from ⟨by rw [← HZ.out.1]; simp, fun z hz => by
                rcases List.mem_cons.1 hz with rfl | hz
                · exact hk3.out
                · exact HZ.out.2 z hz⟩)
              go_wp2_with fail
              go_roundw
              case rel => exact ⟨(p : Int), Z1', y :: Z2, ⟨rfl, by show _ = _; have := HP.out; omega⟩, HZ7.out, HC7.out.then_below (Below.refl _ _).drew, HD7.out.drew⟩
              case measure => simp [intOf]
            · have hk2 : ¬ key x - key y < 0 := by omega
              have HN := hid (HDN.out (by
                rw [List.concat_eq_append]
                refine up_last ?_ (by omega)
                have h9 := HS.out.2
                rw [← HZ.out.1, List.concat_eq_append] at h9
                exact h9.left))
              clear hk
              go_wp2_with fail
              refine wp_region_held_drew (S := (fun w' => (True ∧ Below wr.heap.size wr w') ∧ w'.cell? ⟨g, (p + 1) * 4, none⟩ = some (.int .i64 x.fDay) ∧ w'.cell? ⟨g, (p + 1) * 4 + 1, none⟩ = some (.string x.fWho) ∧ w'.cell? ⟨g, (p + 1) * 4 + 2, none⟩ = some (.int .i64 x.fKind) ∧ w'.cell? ⟨g, (p + 1) * 4 + 3, none⟩ = some (.int .i64 x.fAmount) ∧ w'.cell? ⟨g, p * 4, none⟩ = some (.int .i64 y.fDay) ∧ w'.cell? ⟨g, p * 4 + 1, none⟩ = some (.string y.fWho) ∧ w'.cell? ⟨g, p * 4 + 2, none⟩ = some (.int .i64 y.fKind) ∧ w'.cell? ⟨g, p * 4 + 3, none⟩ = some (.int .i64 y.fAmount))) (by kernel_rfl) ⟨⟨trivial, (Below.refl _ _).drew⟩, a0, a1, a2, a3, b0, b1, b2, b3⟩ (fun hHeld => ?_)
              refine wpAnyH_take (i := 0) (oi := ⟨some 18, _, _, _, _, _⟩) (v := ?_) rfl (by kernel_rfl) (by kernel_rfl) (by kernel_rfl) (fun _ _ _ h => h) (Or.inl ⟨by rfl, ?_⟩) (by assumption) ?_
              rotate_left
              · (intro w hSw; (try dsimp only at hSw); go_simp; try with_reducible rfl)
              try simp only [Act.put, List.setIfInBounds_toArray, List.set_cons_zero, List.set_cons_succ]
              refine wpAnyH_take (i := 1) (oi := ⟨some 19, _, _, _, _, _⟩) (v := ?_) rfl (by kernel_rfl) (by kernel_rfl) (by kernel_rfl) (fun _ _ _ h => h) (Or.inl ⟨by rfl, ?_⟩) (by assumption) ?_
              rotate_left
              · (intro w hSw; (try dsimp only at hSw); go_simp; try with_reducible rfl)
              try simp only [Act.put, List.setIfInBounds_toArray, List.set_cons_zero, List.set_cons_succ]
              refine wpAnyH_take (i := 2) (oi := ⟨some 20, _, _, _, _, _⟩) (v := ?_) rfl (by kernel_rfl) (by kernel_rfl) (by kernel_rfl) (fun _ _ _ h => h) (Or.inl ⟨by rfl, ?_⟩) (by assumption) ?_
              rotate_left
              · (intro w hSw; (try dsimp only at hSw); go_simp; try with_reducible rfl)
              try simp only [Act.put, List.setIfInBounds_toArray, List.set_cons_zero, List.set_cons_succ]
              refine wpAnyH_take (i := 3) (oi := ⟨some 21, _, _, _, _, _⟩) (v := ?_) rfl (by kernel_rfl) (by kernel_rfl) (by kernel_rfl) (fun _ _ _ h => h) (Or.inl ⟨by rfl, ?_⟩) (by assumption) ?_
              rotate_left
              · (intro w hSw; (try dsimp only at hSw); go_simp; try with_reducible rfl)
              try simp only [Act.put, List.setIfInBounds_toArray, List.set_cons_zero, List.set_cons_succ]
              refine wpAnyH_take (i := 4) (oi := ⟨some 22, _, _, _, _, _⟩) (v := ?_) rfl (by kernel_rfl) (by kernel_rfl) (by kernel_rfl) (fun _ _ _ h => h) (Or.inl ⟨by rfl, ?_⟩) (by assumption) ?_
              rotate_left
              · (intro w hSw; (try dsimp only at hSw); go_simp; try with_reducible rfl)
              try simp only [Act.put, List.setIfInBounds_toArray, List.set_cons_zero, List.set_cons_succ]
              refine wpAnyH_take (i := 5) (oi := ⟨some 23, _, _, _, _, _⟩) (v := ?_) rfl (by kernel_rfl) (by kernel_rfl) (by kernel_rfl) (fun _ _ _ h => h) (Or.inl ⟨by rfl, ?_⟩) (by assumption) ?_
              rotate_left
              · (intro w hSw; (try dsimp only at hSw); go_simp; try with_reducible rfl)
              try simp only [Act.put, List.setIfInBounds_toArray, List.set_cons_zero, List.set_cons_succ]
              refine wpAnyH_take (i := 6) (oi := ⟨some 24, _, _, _, _, _⟩) (v := ?_) rfl (by kernel_rfl) (by kernel_rfl) (by kernel_rfl) (fun _ _ _ h => h) (Or.inl ⟨by rfl, ?_⟩) (by assumption) ?_
              rotate_left
              · (intro w hSw; (try dsimp only at hSw); go_simp; try with_reducible rfl)
              try simp only [Act.put, List.setIfInBounds_toArray, List.set_cons_zero, List.set_cons_succ]
              refine wpAnyH_take (i := 7) (oi := ⟨some 25, _, _, _, _, _⟩) (v := ?_) rfl (by kernel_rfl) (by kernel_rfl) (by kernel_rfl) (fun _ _ _ h => h) (Or.inl ⟨by rfl, ?_⟩) (by assumption) ?_
              rotate_left
              · (intro w hSw; (try dsimp only at hSw); go_simp; try with_reducible rfl)
              try simp only [Act.put, List.setIfInBounds_toArray, List.set_cons_zero, List.set_cons_succ]
              refine wpAnyH_take (i := 8) (oi := ⟨some 26, _, _, _, _, _⟩) (v := ?_) rfl (by kernel_rfl) (by kernel_rfl) (by kernel_rfl) (fun _ _ _ h => h) (Or.inl ⟨by rfl, ?_⟩) (by assumption) ?_
              rotate_left
              · (intro w hSw; (try dsimp only at hSw); go_simp; try with_reducible rfl)
              try simp only [Act.put, List.setIfInBounds_toArray, List.set_cons_zero, List.set_cons_succ]
              refine wpAnyH_take (i := 9) (oi := ⟨some 27, _, _, _, _, _⟩) (v := ?_) rfl (by kernel_rfl) (by kernel_rfl) (by kernel_rfl) (fun _ _ _ h => h) (Or.inl ⟨by rfl, ?_⟩) (by assumption) ?_
              rotate_left
              · (intro w hSw; (try dsimp only at hSw); go_simp; try with_reducible rfl)
              try simp only [Act.put, List.setIfInBounds_toArray, List.set_cons_zero, List.set_cons_succ]
              refine wpAnyH_take (i := 10) (oi := ⟨some 28, _, _, _, _, _⟩) (v := ?_) rfl (by kernel_rfl) (by kernel_rfl) (by kernel_rfl) (fun _ _ _ h => h) (Or.inl ⟨by rfl, ?_⟩) (by assumption) ?_
              rotate_left
              · (intro w hSw; (try dsimp only at hSw); go_simp; try with_reducible rfl)
              try simp only [Act.put, List.setIfInBounds_toArray, List.set_cons_zero, List.set_cons_succ]
              refine wpAnyH_take (i := 11) (oi := ⟨some 29, _, _, _, _, _⟩) (v := ?_) rfl (by kernel_rfl) (by kernel_rfl) (by kernel_rfl) (fun _ _ _ h => h) (Or.inl ⟨by rfl, ?_⟩) (by assumption) ?_
              rotate_left
              · (intro w hSw; (try dsimp only at hSw); go_simp; try with_reducible rfl)
              try simp only [Act.put, List.setIfInBounds_toArray, List.set_cons_zero, List.set_cons_succ]
              refine wpAnyH_take (i := 12) (oi := ⟨some 30, _, _, _, _, _⟩) (v := ?_) rfl (by kernel_rfl) (by kernel_rfl) (by kernel_rfl) (fun _ _ _ h => h) (Or.inl ⟨by rfl, ?_⟩) (by assumption) ?_
              rotate_left
              · (intro w hSw; (try dsimp only at hSw); go_simp; try with_reducible rfl)
              try simp only [Act.put, List.setIfInBounds_toArray, List.set_cons_zero, List.set_cons_succ]
              refine wpAnyH_take (i := 13) (oi := ⟨some 31, _, _, _, _, _⟩) (v := ?_) rfl (by kernel_rfl) (by kernel_rfl) (by kernel_rfl) (fun _ _ _ h => h) (Or.inl ⟨by rfl, ?_⟩) (by assumption) ?_
              rotate_left
              · (intro w hSw; (try dsimp only at hSw); go_simp; try with_reducible rfl)
              try simp only [Act.put, List.setIfInBounds_toArray, List.set_cons_zero, List.set_cons_succ]
              refine wpAnyH_ready (rs := [14]) (by kernel_rfl) (by simp) ?_
              refine AllReadyH.cons (o := ⟨some 32, _, _, _, _, _⟩) rfl (fun K hK => ?_) AllReadyH.nil
              go_simp
              go_at_call 98; refine (HC.out _ (HCH.out.then_below hHeld.1.2) x y hdx hdy).mono ?_; rintro e w6 ⟨rfl, hb6⟩
              (try go_wp2_with fail)
              refine hK.out _ _ (keepM8 hgl hgl hgl hgl hgl hgl hgl hgl ‹_ ∧ _› hb6) (fun hHeld => ?_)
              clear hK K
              try simp only [Act.put, List.setIfInBounds_toArray, List.set_cons_zero, List.set_cons_succ]
              refine wpAnyH_take (i := 15) (oi := ⟨some 33, _, _, _, _, _⟩) (v := ?_) rfl (by kernel_rfl) (by kernel_rfl) (by kernel_rfl) (fun _ _ _ h => h) (Or.inl ⟨by rfl, ?_⟩) (by assumption) ?_
              rotate_left
              · (intro w hSw; (try dsimp only at hSw); go_simp; try with_reducible rfl)
              try simp only [Act.put, List.setIfInBounds_toArray, List.set_cons_zero, List.set_cons_succ]
              refine wpAnyH_take (i := 16) (oi := ⟨some 34, _, _, _, _, _⟩) (v := ?_) rfl (by kernel_rfl) (by kernel_rfl) (by kernel_rfl) (fun _ _ _ h => h) (Or.inl ⟨by rfl, ?_⟩) (by assumption) ?_
              rotate_left
              · (intro w hSw; (try dsimp only at hSw); go_simp; try with_reducible rfl)
              try simp only [Act.put, List.setIfInBounds_toArray, List.set_cons_zero, List.set_cons_succ]
              refine wpAnyH_done (by kernel_rfl) ?_ _
              obtain ⟨⟨-, hBw⟩, -⟩ := hHeld
              have HDA6 := hid (DatAt.below HDA.out hBw)
              have HCH6 := hid (HCH.out.then_below hBw)
              clear a0 a1 a2 a3 b0 b1 b2 b3 hb6 hBw
              go_wp2_with fail
              go_roundw
              case rel => exact ⟨(i : Int) + 1, _, R, ⟨rfl, by show _ = _; have := HI.out; simp only [List.length_append, List.length_cons, List.length_concat] at hz12 ⊢; omega⟩, by simp only [List.length_append, List.length_cons, List.length_concat] at hz12 hzl ⊢; omega, ⟨HN.out.2, HN.out.1⟩, HCH6.out, HDA6.out⟩
              case measure => simp [intOf]; omega

/-- a row, all else as it was -/
def RowPostV (B g cap n : Nat) (w0 : World) (l : List DVisit) (e : Ending) (w' : World) : Prop := e = .returned (.tuple #[]) ∧ Chg g (g + 1) w0 w' ∧ DatAt 76 4 DVisit.cells B g cap n l w'
set_option maxHeartbeats 1600000 in
set_option maxRecDepth 100000 in
theorem swrV_ok (B g cap n : Nat) (w0 : World) (hg : g < w0.heap.size) (hn : n ≤ 1000) (U A V C T : List DVisit) (a b m : Nat) (ha : U.length = a) (hb : a + A.length + V.length = b) (hm : A.length = m) (hm2 : C.length = m) (w : World) (hch : Chg g (g + 1) w0 w) (hd : DatAt 76 4 DVisit.cells B g cap n (U ++ (A ++ (V ++ (C ++ T)))) w) :
    Calls Try.prog 190 #[.slice (some ⟨g, 0, none⟩) n cap, .int .i64 (a : Int), .int .i64 (b : Int), .int .i64 (m : Int), .func (.func 98) #[] #[]] w (RowPostV B g cap n w0 (U ++ (C ++ (V ++ (A ++ T))))) := by
  have HCH := hid hch
  have HDA := hid hd
  have hlen := hd.length hencV (by omega)
  simp only [List.length_append] at hlen
  have hbm : b + m ≤ n := by omega
  have ham : a + m ≤ b := by omega
  have HA := hid ha
  have HB := hid hb
  have HM := hid hm
  have HM2 := hid hm2
  clear hch hd hlen ha hb hm hm2
  go_enter Try.func190, Try.ntmps190
  go_wp2_with fail
  go_loopw [10] (fun v wr => ∃ (i : Nat) (A1 A2 C1 C2 : List DVisit), (v = .int .i64 (i : Int) ∧ i ≤ m) ∧ Hid ((A1 ++ A2 = A ∧ C1 ++ C2 = C) ∧ A1.length = i ∧ C1.length = i) ∧ Chg g (g + 1) w0 wr ∧ DatAt 76 4 DVisit.cells B g cap n (U ++ ((C1 ++ A2) ++ (V ++ ((A1 ++ C2) ++ T)))) wr) (fun v _ => m - (intOf v).toNat)
  case atStart => exact ⟨0, [], A, [], C, ⟨rfl, Nat.zero_le _⟩, ⟨⟨rfl, rfl⟩, rfl, rfl⟩, HCH.out, HDA.out⟩
  case round =>
    clear HCH HDA
    obtain ⟨i, A1, A2, C1, C2, ⟨rfl, him⟩, HZ, hch, hd⟩ := hrel
    have HCO := hid hch
    have HDO := hid hd
    have hgl : g < wr.heap.size := Nat.lt_of_lt_of_le hg hch.size
    clear hch hd
    have l1 : i + A2.length = m := by have h1 := congrArg List.length HZ.out.1.1; rw [List.length_append, HM.out, HZ.out.2.1] at h1; exact h1
    have l2 : i + C2.length = m := by have h1 := congrArg List.length HZ.out.1.2; rw [List.length_append, HM2.out, HZ.out.2.2] at h1; exact h1
    by_cases hi : i < m
    · obtain ⟨x, A2, rfl⟩ : ∃ x r, A2 = x :: r := by cases A2 with | nil => simp at l1; omega | cons x r => exact ⟨x, r, rfl⟩
      obtain ⟨y, C2, rfl⟩ : ∃ x r, C2 = x :: r := by cases C2 with | nil => simp at l2; omega | cons x r => exact ⟨x, r, rfl⟩
      obtain ⟨p, hp⟩ : ∃ p : Nat, p = a + i := ⟨_, rfl⟩
      obtain ⟨q, hq⟩ : ∃ p : Nat, p = b + i := ⟨_, rfl⟩
      have q0 : (i : Int) < (m : Int) := by omega
      have v1 : IntKind.i64.wrap ((a : Int) + (i : Int)) = (p : Int) := by rw [IntWalk.i64_in _ (by omega)]; omega
      have v2 : IntKind.i64.wrap ((b : Int) + (i : Int)) = (q : Int) := by rw [IntWalk.i64_in _ (by omega)]; omega
      have q1 : (0 : Int) ≤ (p : Int) := by omega
      have q2 : (p : Int) < (n : Int) := by omega
      have q3 : (0 : Int) ≤ (q : Int) := by omega
      have q4 : (q : Int) < (n : Int) := by omega
      have el := hid (show U ++ ((C1 ++ x :: A2) ++ (V ++ ((A1 ++ y :: C2) ++ T))) = (U ++ C1) ++ x :: ((A2 ++ V ++ A1) ++ y :: (C2 ++ T)) by simp)
      have hpl : p = (U ++ C1).length := by have := HA.out; have := HZ.out.2.2; rw [List.length_append]; omega
      have hql : q = (U ++ C1).length + ((A2 ++ V ++ A1).length + 1) := by
        have := HA.out; have := HB.out; have := HM.out; have := HZ.out.2
        rw [List.length_cons] at l1
        simp only [List.length_append]
        omega
      have ex : (U ++ ((C1 ++ x :: A2) ++ (V ++ ((A1 ++ y :: C2) ++ T))))[p]? = some x := by rw [el.out]; exact at_mid hpl
      have ey : (U ++ ((C1 ++ x :: A2) ++ (V ++ ((A1 ++ y :: C2) ++ T))))[q]? = some y := by
        rw [el.out]
        have h9 := at_mid (u := (U ++ C1) ++ x :: (A2 ++ V ++ A1)) (t := C2 ++ T) (x := y) (i := q) (by rw [hql]; simp only [List.length_append, List.length_cons])
        rw [List.append_assoc, List.cons_append] at h9
        exact h9
      have a0 : wr.cell? ⟨g, p * 4, none⟩ = some (.int .i64 x.fDay) := DatAt.cell HDO.out hencV (f := 0) ex rfl
      have a1 : wr.cell? ⟨g, p * 4 + 1, none⟩ = some (.string x.fWho) := DatAt.cell HDO.out hencV (f := 1) ex rfl
      have a2 : wr.cell? ⟨g, p * 4 + 2, none⟩ = some (.int .i64 x.fKind) := DatAt.cell HDO.out hencV (f := 2) ex rfl
      have a3 : wr.cell? ⟨g, p * 4 + 3, none⟩ = some (.int .i64 x.fAmount) := DatAt.cell HDO.out hencV (f := 3) ex rfl
      have b0 : wr.cell? ⟨g, q * 4, none⟩ = some (.int .i64 y.fDay) := DatAt.cell HDO.out hencV (f := 0) ey rfl
      have b1 : wr.cell? ⟨g, q * 4 + 1, none⟩ = some (.string y.fWho) := DatAt.cell HDO.out hencV (f := 1) ey rfl
      have b2 : wr.cell? ⟨g, q * 4 + 2, none⟩ = some (.int .i64 y.fKind) := DatAt.cell HDO.out hencV (f := 2) ey rfl
      have b3 : wr.cell? ⟨g, q * 4 + 3, none⟩ = some (.int .i64 y.fAmount) := DatAt.cell HDO.out hencV (f := 3) ey rfl
      have d0 : wr.frozen? ⟨g, p * 4, none⟩ = false := World.ownsRow.frozenAt HDO.out _
      have d1 : wr.frozen? ⟨g, p * 4 + 1, none⟩ = false := World.ownsRow.frozenAt HDO.out _
      have d2 : wr.frozen? ⟨g, p * 4 + 2, none⟩ = false := World.ownsRow.frozenAt HDO.out _
      have d3 : wr.frozen? ⟨g, p * 4 + 3, none⟩ = false := World.ownsRow.frozenAt HDO.out _
      have e0 : wr.frozen? ⟨g, q * 4, none⟩ = false := World.ownsRow.frozenAt HDO.out _
      have e1 : wr.frozen? ⟨g, q * 4 + 1, none⟩ = false := World.ownsRow.frozenAt HDO.out _
      have e2 : wr.frozen? ⟨g, q * 4 + 2, none⟩ = false := World.ownsRow.frozenAt HDO.out _
      have e3 : wr.frozen? ⟨g, q * 4 + 3, none⟩ = false := World.ownsRow.frozenAt HDO.out _
      have hpq : p < q := by omega
      have u00 : ¬ (q * 4 = p * 4) := by omega
      have z00 : ¬ (p * 4 = q * 4) := by omega
      have u01 : ¬ (q * 4 = p * 4 + 1) := by omega
      have z01 : ¬ (p * 4 + 1 = q * 4) := by omega
      have u02 : ¬ (q * 4 = p * 4 + 2) := by omega
      have z02 : ¬ (p * 4 + 2 = q * 4) := by omega
      have u03 : ¬ (q * 4 = p * 4 + 3) := by omega
      have z03 : ¬ (p * 4 + 3 = q * 4) := by omega
      have u10 : ¬ (q * 4 + 1 = p * 4) := by omega
      have z10 : ¬ (p * 4 = q * 4 + 1) := by omega
      have u11 : ¬ (q * 4 + 1 = p * 4 + 1) := by omega
      have z11 : ¬ (p * 4 + 1 = q * 4 + 1) := by omega
      have u12 : ¬ (q * 4 + 1 = p * 4 + 2) := by omega
      have z12 : ¬ (p * 4 + 2 = q * 4 + 1) := by omega
      have u13 : ¬ (q * 4 + 1 = p * 4 + 3) := by omega
      have z13 : ¬ (p * 4 + 3 = q * 4 + 1) := by omega
      have u20 : ¬ (q * 4 + 2 = p * 4) := by omega
      have z20 : ¬ (p * 4 = q * 4 + 2) := by omega
      have u21 : ¬ (q * 4 + 2 = p * 4 + 1) := by omega
      have z21 : ¬ (p * 4 + 1 = q * 4 + 2) := by omega
      have u22 : ¬ (q * 4 + 2 = p * 4 + 2) := by omega
      have z22 : ¬ (p * 4 + 2 = q * 4 + 2) := by omega
      have u23 : ¬ (q * 4 + 2 = p * 4 + 3) := by omega
      have z23 : ¬ (p * 4 + 3 = q * 4 + 2) := by omega
      have u30 : ¬ (q * 4 + 3 = p * 4) := by omega
      have z30 : ¬ (p * 4 = q * 4 + 3) := by omega
      have u31 : ¬ (q * 4 + 3 = p * 4 + 1) := by omega
      have z31 : ¬ (p * 4 + 1 = q * 4 + 3) := by omega
      have u32 : ¬ (q * 4 + 3 = p * 4 + 2) := by omega
      have z32 : ¬ (p * 4 + 2 = q * 4 + 3) := by omega
      have u33 : ¬ (q * 4 + 3 = p * 4 + 3) := by omega
      have z33 : ¬ (p * 4 + 3 = q * 4 + 3) := by omega
      have HX := hid ex
      have HY := hid ey
      have HPL := hid hpl
      have HQL := hid hql
      have HPI := hid hp
      have HQI := hid hq
      clear ex ey hpl hql hp hq
      go_wp2_with fail
      refine wp_region_T (fun w' => w'.cell? ⟨g, p * 4, none⟩ = some (.int .i64 x.fDay) ∧ w'.cell? ⟨g, p * 4 + 1, none⟩ = some (.string x.fWho) ∧ w'.cell? ⟨g, p * 4 + 2, none⟩ = some (.int .i64 x.fKind) ∧ w'.cell? ⟨g, p * 4 + 3, none⟩ = some (.int .i64 x.fAmount) ∧ w'.cell? ⟨g, q * 4, none⟩ = some (.int .i64 y.fDay) ∧ w'.cell? ⟨g, q * 4 + 1, none⟩ = some (.string y.fWho) ∧ w'.cell? ⟨g, q * 4 + 2, none⟩ = some (.int .i64 y.fKind) ∧ w'.cell? ⟨g, q * 4 + 3, none⟩ = some (.int .i64 y.fAmount)) [21, 23] (by kernel_rfl) ⟨a0, a1, a2, a3, b0, b1, b2, b3⟩ (fun hHeld => ?_)
      refine wpAnyT_takeW (i := 0) (oi := ⟨some 16, _, _, _, _, _⟩) (v := ?_) rfl (by kernel_rfl) (by kernel_rfl) (by kernel_rfl) (by kernel_rfl) (fun _ _ _ h => h) (Or.inl ⟨by rfl, ?_⟩) (by assumption) ?_
      rotate_left
      · (intro w hSw; go_simp; try with_reducible rfl)
      try simp only [Act.put, List.setIfInBounds_toArray, List.set_cons_zero, List.set_cons_succ]
      refine wpAnyT_takeW (i := 1) (oi := ⟨some 17, _, _, _, _, _⟩) (v := ?_) rfl (by kernel_rfl) (by kernel_rfl) (by kernel_rfl) (by kernel_rfl) (fun _ _ _ h => h) (Or.inl ⟨by rfl, ?_⟩) (by assumption) ?_
      rotate_left
      · (intro w hSw; go_simp; try with_reducible rfl)
      try simp only [Act.put, List.setIfInBounds_toArray, List.set_cons_zero, List.set_cons_succ]
      refine wpAnyT_takeW (i := 2) (oi := ⟨some 18, _, _, _, _, _⟩) (v := ?_) rfl (by kernel_rfl) (by kernel_rfl) (by kernel_rfl) (by kernel_rfl) (fun _ _ _ h => h) (Or.inl ⟨by rfl, ?_⟩) (by assumption) ?_
      rotate_left
      · (intro w hSw; go_simp; try with_reducible rfl)
      try simp only [Act.put, List.setIfInBounds_toArray, List.set_cons_zero, List.set_cons_succ]
      refine wpAnyT_takeW (i := 3) (oi := ⟨some 19, _, _, _, _, _⟩) (v := ?_) rfl (by kernel_rfl) (by kernel_rfl) (by kernel_rfl) (by kernel_rfl) (fun _ _ _ h => h) (Or.inl ⟨by rfl, ?_⟩) (by assumption) ?_
      rotate_left
      · (intro w hSw; go_simp; try with_reducible rfl)
      try simp only [Act.put, List.setIfInBounds_toArray, List.set_cons_zero, List.set_cons_succ]
      refine wpAnyT_takeW (i := 4) (oi := ⟨some 20, _, _, _, _, _⟩) (v := ?_) rfl (by kernel_rfl) (by kernel_rfl) (by kernel_rfl) (by kernel_rfl) (fun _ _ _ h => h) (Or.inl ⟨by rfl, ?_⟩) (by assumption) ?_
      rotate_left
      · (intro w hSw; go_simp; try with_reducible rfl)
      try simp only [Act.put, List.setIfInBounds_toArray, List.set_cons_zero, List.set_cons_succ]
      refine wpAnyT_takeW (i := 5) (oi := ⟨some 21, _, _, _, _, _⟩) (v := ?_) rfl (by kernel_rfl) (by kernel_rfl) (by kernel_rfl) (by kernel_rfl) (fun _ _ _ h => h) (Or.inl ⟨by rfl, ?_⟩) (by assumption) ?_
      rotate_left
      · (intro w hSw; go_simp; try with_reducible rfl)
      try simp only [Act.put, List.setIfInBounds_toArray, List.set_cons_zero, List.set_cons_succ]
      refine wpAnyT_takeW (i := 6) (oi := ⟨some 22, _, _, _, _, _⟩) (v := ?_) rfl (by kernel_rfl) (by kernel_rfl) (by kernel_rfl) (by kernel_rfl) (fun _ _ _ h => h) (Or.inl ⟨by rfl, ?_⟩) (by assumption) ?_
      rotate_left
      · (intro w hSw; go_simp; try with_reducible rfl)
      try simp only [Act.put, List.setIfInBounds_toArray, List.set_cons_zero, List.set_cons_succ]
      refine wpAnyT_takeW (i := 7) (oi := ⟨some 23, _, _, _, _, _⟩) (v := ?_) rfl (by kernel_rfl) (by kernel_rfl) (by kernel_rfl) (by kernel_rfl) (fun _ _ _ h => h) (Or.inl ⟨by rfl, ?_⟩) (by assumption) ?_
      rotate_left
      · (intro w hSw; go_simp; try with_reducible rfl)
      try simp only [Act.put, List.setIfInBounds_toArray, List.set_cons_zero, List.set_cons_succ]
      refine wpAnyT_takeW (i := 8) (oi := ⟨some 24, _, _, _, _, _⟩) (v := ?_) rfl (by kernel_rfl) (by kernel_rfl) (by kernel_rfl) (by kernel_rfl) (fun _ _ _ h => h) (Or.inl ⟨by rfl, ?_⟩) (by assumption) ?_
      rotate_left
      · (intro w hSw; go_simp; try with_reducible rfl)
      try simp only [Act.put, List.setIfInBounds_toArray, List.set_cons_zero, List.set_cons_succ]
      refine wpAnyT_takeW (i := 9) (oi := ⟨some 25, _, _, _, _, _⟩) (v := ?_) rfl (by kernel_rfl) (by kernel_rfl) (by kernel_rfl) (by kernel_rfl) (fun _ _ _ h => h) (Or.inl ⟨by rfl, ?_⟩) (by assumption) ?_
      rotate_left
      · (intro w hSw; go_simp; try with_reducible rfl)
      try simp only [Act.put, List.setIfInBounds_toArray, List.set_cons_zero, List.set_cons_succ]
      refine wpAnyT_takeW (i := 10) (oi := ⟨some 26, _, _, _, _, _⟩) (v := ?_) rfl (by kernel_rfl) (by kernel_rfl) (by kernel_rfl) (by kernel_rfl) (fun _ _ _ h => h) (Or.inl ⟨by rfl, ?_⟩) (by assumption) ?_
      rotate_left
      · (intro w hSw; go_simp; try with_reducible rfl)
      try simp only [Act.put, List.setIfInBounds_toArray, List.set_cons_zero, List.set_cons_succ]
      refine wpAnyT_takeW (i := 11) (oi := ⟨some 27, _, _, _, _, _⟩) (v := ?_) rfl (by kernel_rfl) (by kernel_rfl) (by kernel_rfl) (by kernel_rfl) (fun _ _ _ h => h) (Or.inl ⟨by rfl, ?_⟩) (by assumption) ?_
      rotate_left
      · (intro w hSw; go_simp; try with_reducible rfl)
      try simp only [Act.put, List.setIfInBounds_toArray, List.set_cons_zero, List.set_cons_succ]
      refine wpAnyT_takeW (i := 12) (oi := ⟨some 28, _, _, _, _, _⟩) (v := ?_) rfl (by kernel_rfl) (by kernel_rfl) (by kernel_rfl) (by kernel_rfl) (fun _ _ _ h => h) (Or.inl ⟨by rfl, ?_⟩) (by assumption) ?_
      rotate_left
      · (intro w hSw; go_simp; try with_reducible rfl)
      try simp only [Act.put, List.setIfInBounds_toArray, List.set_cons_zero, List.set_cons_succ]
      refine wpAnyT_take (i := 13) (oi := ⟨some 29, _, _, _, _, _⟩) (v := ?_) rfl (by kernel_rfl) (by kernel_rfl) (by kernel_rfl) (by kernel_rfl) (by kernel_rfl) (by kernel_rfl) (fun _ _ _ h => h) (Or.inl ⟨by rfl, ?_⟩) (by assumption) ?_
      rotate_left
      · (intro w hSw; (try dsimp only at hSw); go_simp; try with_reducible rfl)
      try simp only [Act.put, List.setIfInBounds_toArray, List.set_cons_zero, List.set_cons_succ]
      refine wpAnyT_takeW (i := 14) (oi := ⟨some 30, _, _, _, _, _⟩) (v := ?_) rfl (by kernel_rfl) (by kernel_rfl) (by kernel_rfl) (by kernel_rfl) (fun _ _ _ h => h) (Or.inl ⟨by rfl, ?_⟩) (by assumption) ?_
      rotate_left
      · (intro w hSw; go_simp; try with_reducible rfl)
      try simp only [Act.put, List.setIfInBounds_toArray, List.set_cons_zero, List.set_cons_succ]
      refine wpAnyT_takeW (i := 15) (oi := ⟨some 31, _, _, _, _, _⟩) (v := ?_) rfl (by kernel_rfl) (by kernel_rfl) (by kernel_rfl) (by kernel_rfl) (fun _ _ _ h => h) (Or.inl ⟨by rfl, ?_⟩) (by assumption) ?_
      rotate_left
      · (intro w hSw; go_simp; try with_reducible rfl)
      try simp only [Act.put, List.setIfInBounds_toArray, List.set_cons_zero, List.set_cons_succ]
      refine wpAnyT_takeW (i := 16) (oi := ⟨some 32, _, _, _, _, _⟩) (v := ?_) rfl (by kernel_rfl) (by kernel_rfl) (by kernel_rfl) (by kernel_rfl) (fun _ _ _ h => h) (Or.inl ⟨by rfl, ?_⟩) (by assumption) ?_
      rotate_left
      · (intro w hSw; go_simp; try with_reducible rfl)
      try simp only [Act.put, List.setIfInBounds_toArray, List.set_cons_zero, List.set_cons_succ]
      refine wpAnyT_takeW (i := 17) (oi := ⟨some 33, _, _, _, _, _⟩) (v := ?_) rfl (by kernel_rfl) (by kernel_rfl) (by kernel_rfl) (by kernel_rfl) (fun _ _ _ h => h) (Or.inl ⟨by rfl, ?_⟩) (by assumption) ?_
      rotate_left
      · (intro w hSw; go_simp; try with_reducible rfl)
      try simp only [Act.put, List.setIfInBounds_toArray, List.set_cons_zero, List.set_cons_succ]
      refine wpAnyT_takeW (i := 18) (oi := ⟨some 34, _, _, _, _, _⟩) (v := ?_) rfl (by kernel_rfl) (by kernel_rfl) (by kernel_rfl) (by kernel_rfl) (fun _ _ _ h => h) (Or.inl ⟨by rfl, ?_⟩) (by assumption) ?_
      rotate_left
      · (intro w hSw; go_simp; try with_reducible rfl)
      try simp only [Act.put, List.setIfInBounds_toArray, List.set_cons_zero, List.set_cons_succ]
      refine wpAnyT_take (i := 19) (oi := ⟨some 35, _, _, _, _, _⟩) (v := ?_) rfl (by kernel_rfl) (by kernel_rfl) (by kernel_rfl) (by kernel_rfl) (by kernel_rfl) (by kernel_rfl) (fun _ _ _ h => h) (Or.inl ⟨by rfl, ?_⟩) (by assumption) ?_
      rotate_left
      · (intro w hSw; (try dsimp only at hSw); go_simp; try with_reducible rfl)
      try simp only [Act.put, List.setIfInBounds_toArray, List.set_cons_zero, List.set_cons_succ]
      refine wpAnyT_takeW (i := 20) (oi := ⟨some 36, _, _, _, _, _⟩) (v := ?_) rfl (by kernel_rfl) (by kernel_rfl) (by kernel_rfl) (by kernel_rfl) (fun _ _ _ h => h) (Or.inl ⟨by rfl, ?_⟩) (by assumption) ?_
      rotate_left
      · (intro w hSw; go_simp; try with_reducible rfl)
      try simp only [Act.put, List.setIfInBounds_toArray, List.set_cons_zero, List.set_cons_succ]
      refine wpAnyT_ready (rs := [21]) (by kernel_rfl) (by simp) ?_
      refine AllReadyT.consB (o := ⟨none, _, _, _, _, _⟩) rfl (by kernel_rfl) (fun K hK => ?_) AllReadyT.nil
      go_simp
      refine hK.out _ _ ?_
      clear hK K
      try simp only [Act.put, List.setIfInBounds_toArray, List.set_cons_zero, List.set_cons_succ]
      refine wpAnyT_takeV (i := 22) (oi := ⟨some 37, _, _, _, _, _⟩) (v := ?_) rfl (by kernel_rfl) (by kernel_rfl) (by kernel_rfl) (by kernel_rfl) (by kernel_rfl) (fun _ _ _ h => h) (Or.inl ⟨by rfl, ?_⟩) ?_
      rotate_left
      · (intro w hSw; go_simp; try with_reducible rfl)
      try simp only [Act.put, List.setIfInBounds_toArray, List.set_cons_zero, List.set_cons_succ]
      refine wpAnyT_ready (rs := [23]) (by kernel_rfl) (by simp) ?_
      refine AllReadyT.consB (o := ⟨none, _, _, _, _, _⟩) rfl (by kernel_rfl) (fun K hK => ?_) AllReadyT.nil
      go_simp
      refine hK.out _ _ ?_
      clear hK K
      try simp only [Act.put, List.setIfInBounds_toArray, List.set_cons_zero, List.set_cons_succ]
      refine wpAnyT_done (by kernel_rfl) ?_ _
      have HD7 := hid (show DatAt 76 4 DVisit.cells B g cap n (U ++ (((C1 ++ [y]) ++ A2) ++ (V ++ (((A1 ++ [x]) ++ C2) ++ T)))) ((((((((wr.setCell ⟨g, p * 4, none⟩ (.int .i64 y.fDay)).setCell ⟨g, p * 4 + 1, none⟩ (.string y.fWho)).setCell ⟨g, p * 4 + 2, none⟩ (.int .i64 y.fKind)).setCell ⟨g, p * 4 + 3, none⟩ (.int .i64 y.fAmount)).setCell ⟨g, q * 4, none⟩ (.int .i64 x.fDay)).setCell ⟨g, q * 4 + 1, none⟩ (.string x.fWho)).setCell ⟨g, q * 4 + 2, none⟩ (.int .i64 x.fKind)).setCell ⟨g, q * 4 + 3, none⟩ (.int .i64 x.fAmount)) by
        have h9 := DatAt.swap (w := wr) (i := p) (j := q) (x := x) (y := y) HDO.out hencV (List.getElem?_eq_some_iff.1 HX.out).1 (List.getElem?_eq_some_iff.1 HY.out).1
        have e8 := HPL.out
        have e7 := HQL.out
        rw [el.out] at h9
        rw [swapWV] at h9
        have h8 := set_two (u := U ++ C1) (v := A2 ++ V ++ A1) (t := C2 ++ T) (y := x) (x := y)
        rw [← e7, ← e8] at h8
        rw [h8] at h9
        have e6 : U ++ (((C1 ++ [y]) ++ A2) ++ (V ++ (((A1 ++ [x]) ++ C2) ++ T))) = (U ++ C1) ++ y :: ((A2 ++ V ++ A1) ++ x :: (C2 ++ T)) := by simp
        rw [e6]
        exact h9)
      have HC7 := hid (show Chg g (g + 1) w0 ((((((((wr.setCell ⟨g, p * 4, none⟩ (.int .i64 y.fDay)).setCell ⟨g, p * 4 + 1, none⟩ (.string y.fWho)).setCell ⟨g, p * 4 + 2, none⟩ (.int .i64 y.fKind)).setCell ⟨g, p * 4 + 3, none⟩ (.int .i64 y.fAmount)).setCell ⟨g, q * 4, none⟩ (.int .i64 x.fDay)).setCell ⟨g, q * 4 + 1, none⟩ (.string x.fWho)).setCell ⟨g, q * 4 + 2, none⟩ (.int .i64 x.fKind)).setCell ⟨g, q * 4 + 3, none⟩ (.int .i64 x.fAmount)) by
        rw [← swapWV]
        exact Chg.setCells (Nat.le_refl _) (by omega) _ (Chg.setCells (Nat.le_refl _) (by omega) _ HCO.out))
      have HZ7 := hid (show ((A1 ++ [x]) ++ A2 = A ∧ (C1 ++ [y]) ++ C2 = C) ∧ (A1 ++ [x]).length = i + 1 ∧ (C1 ++ [y]).length = i + 1 from ⟨⟨by rw [← HZ.out.1.1]; simp, by rw [← HZ.out.1.2]; simp⟩, by rw [List.length_append, HZ.out.2.1]; rfl, by rw [List.length_append, HZ.out.2.2]; rfl⟩)
      go_wp2_with fail
      go_roundw
      case rel => exact ⟨i + 1, _, _, _, _, ⟨by go_num, by omega⟩, HZ7.out, HC7.out.then_below (Below.refl _ _).drew, HD7.out.drew⟩
      case measure => simp [intOf]; omega
    · have q0 : ¬ (i : Int) < (m : Int) := by omega
      have hA2 : A2 = [] := List.eq_nil_of_length_eq_zero (by omega)
      have hC2 : C2 = [] := List.eq_nil_of_length_eq_zero (by omega)
      subst hA2 hC2
      have HD8 := hid (show DatAt 76 4 DVisit.cells B g cap n (U ++ (C ++ (V ++ (A ++ T)))) wr by
        have h9 := HDO.out
        have h1 := HZ.out.1.1
        have h2 := HZ.out.1.2
        rw [List.append_nil] at h1 h2
        rw [h1, h2, List.append_nil, List.append_nil] at h9
        exact h9)
      go_wp2_with fail
      (try simp only [Exit.inBlock, Exit.then]); first | refine bodyPost_ret (results_none rfl _ _ _) rfl ?_ | refine bodyPost_end (results_none rfl _ _ _) rfl ?_
      exact ⟨rfl, HCO.out, HD8.out⟩

set_option maxHeartbeats 1600000 in
set_option maxRecDepth 100000 in
theorem rotV_ok (B g cap n : Nat) (w0 : World) (hg : g < w0.heap.size) (hn : n ≤ 1000) (U A C T : List DVisit) (a m b : Nat) (ha : U.length = a) (hm : a + A.length = m) (hb : m + C.length = b) (hA0 : 0 < A.length) (hC0 : 0 < C.length) (w : World) (hch : Chg g (g + 1) w0 w) (hd : DatAt 76 4 DVisit.cells B g cap n (U ++ (A ++ (C ++ T))) w) :
    Calls Try.prog 175 #[.slice (some ⟨g, 0, none⟩) n cap, .int .i64 (a : Int), .int .i64 (m : Int), .int .i64 (b : Int), .func (.func 98) #[] #[]] w (RowPostV B g cap n w0 (U ++ (C ++ (A ++ T)))) := by
  have HCH := hid hch
  have HDA := hid hd
  have hlen := hd.length hencV (by omega)
  simp only [List.length_append] at hlen
  have hbn : b ≤ n := by omega
  have s1 : (m : Int) - (a : Int) = (A.length : Int) := by omega
  have s2 : (b : Int) - (m : Int) = (C.length : Int) := by omega
  have HA := hid ha
  have HM := hid hm
  have HB := hid hb
  clear hch hd hlen ha hb hm
  go_enter Try.func175, Try.ntmps175
  go_wp2_with fail
  clear s1 s2
  go_loopw [10, 11] (fun v u wr => ∃ (i j : Nat) (U2 A2 C2 T2 : List DVisit), (v = .int .i64 (i : Int) ∧ u = .int .i64 (j : Int)) ∧ ((0 < i ∧ 0 < j) ∧ i + j ≤ n ∧ m + j ≤ n) ∧ Hid ((U2.length + i = m ∧ A2.length = i ∧ C2.length = j) ∧ U2 ++ (C2 ++ (A2 ++ T2)) = U ++ (C ++ (A ++ T))) ∧ Chg g (g + 1) w0 wr ∧ DatAt 76 4 DVisit.cells B g cap n (U2 ++ (A2 ++ (C2 ++ T2))) wr) (fun v u _ => (intOf v).toNat + (intOf u).toNat)
  case atStart => exact ⟨A.length, C.length, U, A, C, T, ⟨rfl, rfl⟩, ⟨⟨hA0, hC0⟩, by have := HA.out; have := HM.out; have := HB.out; omega, by have := HB.out; omega⟩, ⟨⟨by have := HA.out; have := HM.out; omega, rfl, rfl⟩, rfl⟩, HCH.out, HDA.out⟩
  case round =>
    clear HCH HDA
    obtain ⟨i, j, U2, A2, C2, T2, ⟨rfl, rfl⟩, ⟨⟨hi0, hj0⟩, hij, hmj⟩, HZ, hch, hd⟩ := hrel
    have HCO := hid hch
    have HDO := hid hd
    clear hch hd
    obtain ⟨u, hu⟩ : ∃ u : Nat, u = U2.length := ⟨_, rfl⟩
    have huim : u + i = m := by rw [hu]; exact HZ.out.1.1
    have HU := hid hu
    clear hu
    have s1 : (m : Int) - (i : Int) = (u : Int) := by omega
    by_cases hne : i = j
    · subst hne
      have d1 : ((i : Int) != (i : Int)) = false := by simp
      have HDX := hid (show DatAt 76 4 DVisit.cells B g cap n (U2 ++ (A2 ++ ([] ++ (C2 ++ T2)))) wr from HDO.out)
      go_wp2_with fail
      refine (swrV_ok B g cap n w0 hg hn U2 A2 [] C2 T2 u m i HU.out.symm (by rw [HZ.out.1.2.1]; simp; omega) HZ.out.1.2.1 HZ.out.1.2.2 _ HCO.out HDX.out).mono ?_
      rintro e w6 ⟨rfl, hch6, hd6⟩
      have HC6 := hid hch6
      have HD6 := hid hd6
      clear hch6 hd6
      go_wp2_with fail
      (try simp only [Exit.inBlock, Exit.then]); first | refine bodyPost_ret (results_none rfl _ _ _) rfl ?_ | refine bodyPost_end (results_none rfl _ _ _) rfl ?_
      exact ⟨rfl, HC6.out, by have h9 := HD6.out; rw [List.nil_append, HZ.out.2] at h9; exact h9⟩
    · have d1 : ((i : Int) != (j : Int)) = true := by simp; omega
      by_cases hgt : j < i
      · have q1 : (j : Int) < (i : Int) := by omega
        have HA2 := hid (List.take_append_drop j A2)
        have la := HZ.out.1.2.1
        have l1 : (A2.take j).length = j := by rw [List.length_take]; omega
        have l2 : (A2.drop j).length = i - j := by rw [List.length_drop]; omega
        have HL1 := hid l1
        have HL2 := hid l2
        clear la l1 l2
        have HDX := hid (show DatAt 76 4 DVisit.cells B g cap n (U2 ++ (A2.take j ++ (A2.drop j ++ (C2 ++ T2)))) wr by have h9 := HDO.out; rw [← HA2.out, List.append_assoc] at h9; exact h9)
        go_wp2_with fail
        refine (swrV_ok B g cap n w0 hg hn U2 (A2.take j) (A2.drop j) C2 T2 u m j HU.out.symm (by rw [HL1.out, HL2.out]; omega) HL1.out HZ.out.1.2.2 _ HCO.out HDX.out).mono ?_
        rintro e w6 ⟨rfl, hch6, hd6⟩
        have HC6 := hid hch6
        have HD6 := hid hd6
        clear hch6 hd6
        have s3 : (i : Int) - (j : Int) = ((i - j : Nat) : Int) := by omega
        go_wp2_with fail
        go_roundw
        case rel => exact ⟨i - j, j, U2 ++ C2, A2.drop j, A2.take j, T2, ⟨by rw [← s3], rfl⟩, ⟨⟨by omega, hj0⟩, by omega, hmj⟩, ⟨⟨by rw [List.length_append, HZ.out.1.2.2, ← HU.out]; omega, HL2.out, HL1.out⟩, by rw [← HZ.out.2]; simp only [List.append_assoc]; rw [← List.append_assoc (A2.take j), HA2.out]⟩, HC6.out, by have h9 := HD6.out; rw [← List.append_assoc] at h9; exact h9⟩
        case measure => simp [intOf]; omega
      · have q1 : ¬ (j : Int) < (i : Int) := by omega
        have HA2 := hid (List.take_append_drop (j - i) C2)
        have la := HZ.out.1.2.2
        have l1 : (C2.take (j - i)).length = j - i := by rw [List.length_take]; omega
        have l2 : (C2.drop (j - i)).length = i := by rw [List.length_drop]; omega
        have HL1 := hid l1
        have HL2 := hid l2
        clear la l1 l2
        obtain ⟨v, hv⟩ : ∃ v : Nat, v = m + j - i := ⟨_, rfl⟩
        have s3 : (m : Int) + (j : Int) - (i : Int) = (v : Int) := by omega
        have HV := hid hv
        clear hv
        have HDX := hid (show DatAt 76 4 DVisit.cells B g cap n (U2 ++ (A2 ++ (C2.take (j - i) ++ (C2.drop (j - i) ++ T2)))) wr by have h9 := HDO.out; rw [← HA2.out, List.append_assoc (C2.take (j - i))] at h9; exact h9)
        go_wp2_with fail
        refine (swrV_ok B g cap n w0 hg hn U2 A2 (C2.take (j - i)) (C2.drop (j - i)) T2 u v i HU.out.symm (by rw [HZ.out.1.2.1, HL1.out, HV.out]; omega) HZ.out.1.2.1 HL2.out _ HCO.out HDX.out).mono ?_
        rintro e w6 ⟨rfl, hch6, hd6⟩
        have HC6 := hid hch6
        have HD6 := hid hd6
        clear hch6 hd6
        have s4 : (j : Int) - (i : Int) = ((j - i : Nat) : Int) := by omega
        go_wp2_with fail
        go_roundw
        case rel => exact ⟨i, j - i, U2, C2.drop (j - i), C2.take (j - i), A2 ++ T2, ⟨rfl, by rw [← s4]⟩, ⟨⟨hi0, by omega⟩, by omega, by omega⟩, ⟨⟨by rw [← HU.out]; omega, HL2.out, HL1.out⟩, by rw [← HZ.out.2]; rw [← List.append_assoc (C2.take (j - i)), HA2.out]⟩, HC6.out, HD6.out⟩
        case measure => simp [intOf]; omega

end Go.Proofs.Ytjeklbhdngkngaa
