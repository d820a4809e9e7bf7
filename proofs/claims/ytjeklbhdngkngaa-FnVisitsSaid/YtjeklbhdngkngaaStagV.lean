/- slices.SortStableFunc at impl.Visit: symMerge, both sides of two or more. -/
import Derived.Test.YtjeklbhdngkngaaStamV
import Derived.Deep.DeepCutAuto
import Derived.Deep.CutRange
namespace Go.Proofs.Ytjeklbhdngkngaa
open Go.RowKit
set_option linter.unusedVariables false


/-- the rule for all shorter stretches -/
def SymAllV (key : DVisit → Int) (D : DVisit → Prop) (B g cap n : Nat) (w0 : World) (L : Nat) : Prop := ∀ (P X Y Q : List DVisit) (a m b : Nat), b - a ≤ L → P.length = a → a + X.length = m → m + Y.length = b → 0 < X.length → 0 < Y.length → UpK key X → UpK key Y → (∀ x ∈ X ++ Y, D x) → ∀ w, Chg g (g + 1) w0 w → DatAt 76 4 DVisit.cells B g cap n (P ++ (X ++ (Y ++ Q))) w → Calls Try.prog 163 #[.slice (some ⟨g, 0, none⟩) n cap, .int .i64 (a : Int), .int .i64 (m : Int), .int .i64 (b : Int), .func (.func 98) #[] #[]] w (SymPostV key B g cap n w0 P X Y Q)
set_option maxHeartbeats 1600000 in
set_option maxRecDepth 100000 in
theorem symV_step (key : DVisit → Int) (D : DVisit → Prop) (B g cap n : Nat) (w0 : World) (hC : CmpV key D g w0) (hg : g < w0.heap.size) (hn : n ≤ 1000) (L : Nat) (hI : SymAllV key D B g cap n w0 L) (P X Y Q : List DVisit) (a m b : Nat) (ha : P.length = a) (hm : a + X.length = m) (hb : m + Y.length = b) (hX : UpK key X) (hY : UpK key Y) (hD : ∀ z ∈ X ++ Y, D z) (w : World) (hch : Chg g (g + 1) w0 w) (hd : DatAt 76 4 DVisit.cells B g cap n (P ++ (X ++ (Y ++ Q))) w) (hX2 : 2 ≤ X.length) (hY2 : 2 ≤ Y.length) (hL : b - a ≤ L + 1) :
    Calls Try.prog 163 #[.slice (some ⟨g, 0, none⟩) n cap, .int .i64 (a : Int), .int .i64 (m : Int), .int .i64 (b : Int), .func (.func 98) #[] #[]] w (SymPostV key B g cap n w0 P X Y Q) := by
  have HC := hid hC
  have HD := hid hD
  have HCH := hid hch
  have HDA := hid hd
  have hlen := hd.length hencV (by omega)
  simp only [List.length_append] at hlen
  have hbn : b ≤ n := by omega
  have HA := hid ha
  have HM := hid hm
  have HB := hid hb
  have HX := hid hX
  have HY := hid hY
  have HI := hid hI
  have s1 : (m : Int) - (a : Int) = (X.length : Int) := by omega
  have s2 : (b : Int) - (m : Int) = (Y.length : Int) := by omega
  have d1 : ((X.length : Int) == 1) = false := by rw [beq_eq_false_iff_ne]; omega
  have d2 : ((Y.length : Int) == 1) = false := by rw [beq_eq_false_iff_ne]; omega
  have am : a + 2 ≤ m := by omega
  have mb : m + 2 ≤ b := by omega
  clear hC hD hch hd hlen ha hm hb hX hY hI hX2 hY2
  obtain ⟨k, hk⟩ : ∃ k, k = (a + b) / 2 := ⟨_, rfl⟩
  have k1 : a < k := by omega
  have k2 : k < b := by omega
  have w1 : IntKind.u64.wrap ((a : Int) + (b : Int)) = (a : Int) + (b : Int) := IntWalk.u64_in _ (by omega)
  have w2 : ((a : Int) + (b : Int)) / 2 = (k : Int) := by omega
  have HK := hid hk
  obtain ⟨p, hp⟩ : ∃ p, p + 1 = k + m := ⟨k + m - 1, by omega⟩
  obtain ⟨N, hN⟩ : ∃ N, N = p + 1 := ⟨_, rfl⟩
  have v0 : (k : Int) + (m : Int) = (N : Int) := by omega
  have v1 : (N : Int) - 1 = (p : Int) := by omega
  obtain ⟨lo, hi, hlh⟩ : ∃ lo hi : Nat, (k < m ∧ lo + b = N ∧ hi = k) ∨ (m ≤ k ∧ lo = a ∧ hi = m) := by
    by_cases h : k < m
    · exact ⟨N - b, k, .inl ⟨h, by omega, rfl⟩⟩
    · exact ⟨a, m, .inr ⟨by omega, rfl, rfl⟩⟩
  have HP := hid hp
  have HN := hid hN
  have HLH := hid hlh
  have l1 : a ≤ lo := by omega
  have l2 : hi ≤ m := by omega
  have l3 : hi ≤ k := by omega
  have l4 : N ≤ lo + b := by omega
  have l5 : lo ≤ hi := by omega
  clear hk hp hN hlh
  go_enter Try.func163, Try.ntmps163
  go_upto_if 140 with fail
  go_cut [20, 21] from 138 to 146 (fun s20 s21 wx => s20 = .int .i64 (lo : Int) ∧ s21 = .int .i64 (hi : Int) ∧ wx = w)
  case first =>
    by_cases h : k < m
    · have q0 : (k : Int) < (m : Int) := by omega
      have q1 : (N : Int) - (b : Int) = (lo : Int) := by have := HLH.out; omega
      have q2 := hid (show (k : Int) = (hi : Int) by have := HLH.out; omega)
      clear h
      go_wp2_with fail
      go_meet
      exact ⟨rfl, by rw [q2.out], rfl⟩
    · have q0 : ¬ (k : Int) < (m : Int) := by omega
      have q1 := hid (show (a : Int) = (lo : Int) by have := HLH.out; omega)
      have q2 := hid (show (m : Int) = (hi : Int) by have := HLH.out; omega)
      clear h
      go_wp2_with fail
      go_meet
      exact ⟨by rw [q1.out], by rw [q2.out], rfl⟩
  case rest =>
    obtain ⟨rfl, rfl, rfl⟩ := hcut
    clear s1 s2 d1 d2 w1 w2
    go_wp2_with fail
    go_loopw [20, 21] (fun vi vj wr => ∃ (i j : Nat), (vi = .int .i64 (i : Int) ∧ vj = .int .i64 (j : Int)) ∧ (lo ≤ i ∧ i ≤ j ∧ j ≤ hi) ∧ Hid ((i = lo ∨ ∃ (h1 : i - 1 - a < X.length) (h2 : N - i - m < Y.length), key X[i - 1 - a] ≤ key Y[N - i - m]) ∧ (j = hi ∨ ∃ (h1 : j - a < X.length) (h2 : p - j - m < Y.length), key Y[p - j - m] < key X[j - a])) ∧ Chg g (g + 1) w0 wr ∧ DatAt 76 4 DVisit.cells B g cap n (P ++ (X ++ (Y ++ Q))) wr) (fun vi vj _ => (intOf vj).toNat - (intOf vi).toNat)
    case atStart => exact ⟨lo, hi, ⟨rfl, rfl⟩, ⟨Nat.le_refl _, l5, Nat.le_refl _⟩, ⟨.inl rfl, .inl rfl⟩, HCH.out, HDA.out⟩
    case round =>
      clear HCH HDA
      obtain ⟨i, j, ⟨rfl, rfl⟩, ⟨hi1, hij, hj⟩, HZ, hch, hd⟩ := hrel
      have HCH := hid hch
      have HDA := hid hd
      have hgl : g < wr.heap.size := Nat.lt_of_lt_of_le hg hch.size
      clear hch hd
      by_cases hlt : i < j
      · obtain ⟨h, hh⟩ : ∃ h, h = (i + j) / 2 := ⟨_, rfl⟩
        have h1 : i ≤ h := by omega
        have h2 : h < j := by omega
        have hhm : h - a < X.length := by have := HM.out; omega
        obtain ⟨u, hu⟩ : ∃ u, u = p - h := ⟨_, rfl⟩
        have u1 : m ≤ u ∧ u + 1 ≤ b := by have := HP.out; have := HN.out; have := HLH.out; omega
        have hum : u - m < Y.length := by have := HB.out; omega
        have v2 : IntKind.i64.wrap ((p : Int) - (h : Int)) = (u : Int) := by rw [IntWalk.i64_in _ (by omega)]; have := HP.out; omega
        obtain ⟨x, hx⟩ : ∃ x, x = X[h - a] := ⟨_, rfl⟩
        obtain ⟨y, hy⟩ : ∃ y, y = Y[u - m] := ⟨_, rfl⟩
        have q0 : (i : Int) < (j : Int) := by omega
        have w1 : IntKind.u64.wrap ((i : Int) + (j : Int)) = (i : Int) + (j : Int) := IntWalk.u64_in _ (by omega)
        have w2 : ((i : Int) + (j : Int)) / 2 = (h : Int) := by omega
        have q1 : (0 : Int) ≤ (h : Int) := by omega
        have q2 : (h : Int) < (n : Int) := by omega
        have q3 : (0 : Int) ≤ (u : Int) := by omega
        have q4 : (u : Int) < (n : Int) := by omega
        have hxd : D x := HD.out x (by rw [hx]; exact List.mem_append_left _ (List.getElem_mem hhm))
        have hyd : D y := HD.out y (by rw [hy]; exact List.mem_append_right _ (List.getElem_mem hum))
        have ex : (P ++ (X ++ (Y ++ Q)))[h]? = some x := by
          have e1 : h = P.length + (h - a) := by have := HA.out; omega
          rw [e1, List.getElem?_append_right (by omega), Nat.add_sub_cancel_left, List.getElem?_append_left hhm, List.getElem?_eq_getElem hhm, hx]
        have ey : (P ++ (X ++ (Y ++ Q)))[u]? = some y := by
          have e1 : u = (P ++ X).length + (u - m) := by have := HA.out; have := HM.out; rw [List.length_append]; omega
          rw [e1, ← List.append_assoc, List.getElem?_append_right (by omega), Nat.add_sub_cancel_left, List.getElem?_append_left hum, List.getElem?_eq_getElem hum, hy]
        have a0 : wr.cell? ⟨g, u * 4, none⟩ = some (.int .i64 y.fDay) := DatAt.cell HDA.out hencV (f := 0) ey rfl
        have a1 : wr.cell? ⟨g, u * 4 + 1, none⟩ = some (.string y.fWho) := DatAt.cell HDA.out hencV (f := 1) ey rfl
        have a2 : wr.cell? ⟨g, u * 4 + 2, none⟩ = some (.int .i64 y.fKind) := DatAt.cell HDA.out hencV (f := 2) ey rfl
        have a3 : wr.cell? ⟨g, u * 4 + 3, none⟩ = some (.int .i64 y.fAmount) := DatAt.cell HDA.out hencV (f := 3) ey rfl
        have b0 : wr.cell? ⟨g, h * 4, none⟩ = some (.int .i64 x.fDay) := DatAt.cell HDA.out hencV (f := 0) ex rfl
        have b1 : wr.cell? ⟨g, h * 4 + 1, none⟩ = some (.string x.fWho) := DatAt.cell HDA.out hencV (f := 1) ex rfl
        have b2 : wr.cell? ⟨g, h * 4 + 2, none⟩ = some (.int .i64 x.fKind) := DatAt.cell HDA.out hencV (f := 2) ex rfl
        have b3 : wr.cell? ⟨g, h * 4 + 3, none⟩ = some (.int .i64 x.fAmount) := DatAt.cell HDA.out hencV (f := 3) ex rfl
        have HHH := hid hh
        have HXE := hid hx
        have HYE := hid hy
        have HU := hid hu
        have HU1 := hid u1
        clear ex ey hh hx hy hu u1
        by_cases hk : key y < key x
        · have hk2 : key y - key x < 0 := by omega
          have hk3 : decide (key y - key x < 0) = true := decide_eq_true hk2
          have HZ2 := hid (show (i = lo ∨ ∃ (h1 : i - 1 - a < X.length) (h2 : N - i - m < Y.length), key X[i - 1 - a] ≤ key Y[N - i - m]) ∧ (h = hi ∨ ∃ (h1 : h - a < X.length) (h2 : p - h - m < Y.length), key Y[p - h - m] < key X[h - a]) from ⟨HZ.out.1, .inr ⟨hhm, by rw [← HU.out]; exact hum, by simp only [← HU.out]; rw [← HXE.out, ← HYE.out]; exact hk⟩⟩)
          clear hk
          go_wp2_with fail
          refine wp_region_held_drew (S := (fun w' => (True ∧ Below wr.heap.size wr w') ∧ w'.cell? ⟨g, u * 4, none⟩ = some (.int .i64 y.fDay) ∧ w'.cell? ⟨g, u * 4 + 1, none⟩ = some (.string y.fWho) ∧ w'.cell? ⟨g, u * 4 + 2, none⟩ = some (.int .i64 y.fKind) ∧ w'.cell? ⟨g, u * 4 + 3, none⟩ = some (.int .i64 y.fAmount) ∧ w'.cell? ⟨g, h * 4, none⟩ = some (.int .i64 x.fDay) ∧ w'.cell? ⟨g, h * 4 + 1, none⟩ = some (.string x.fWho) ∧ w'.cell? ⟨g, h * 4 + 2, none⟩ = some (.int .i64 x.fKind) ∧ w'.cell? ⟨g, h * 4 + 3, none⟩ = some (.int .i64 x.fAmount))) (by kernel_rfl) ⟨⟨trivial, (Below.refl _ _).drew⟩, a0, a1, a2, a3, b0, b1, b2, b3⟩ (fun hHeld => ?_)
          refine wpAnyH_take (i := 0) (oi := ⟨some 158, _, _, _, _, _⟩) (v := ?_) rfl (by kernel_rfl) (by kernel_rfl) (by kernel_rfl) (fun _ _ _ h => h) (Or.inl ⟨by rfl, ?_⟩) (by assumption) ?_
          rotate_left
          · (intro w hSw; (try dsimp only at hSw); go_simp; try with_reducible rfl)
          try simp only [Act.put, List.setIfInBounds_toArray, List.set_cons_zero, List.set_cons_succ]
          refine wpAnyH_take (i := 1) (oi := ⟨some 159, _, _, _, _, _⟩) (v := ?_) rfl (by kernel_rfl) (by kernel_rfl) (by kernel_rfl) (fun _ _ _ h => h) (Or.inl ⟨by rfl, ?_⟩) (by assumption) ?_
          rotate_left
          · (intro w hSw; (try dsimp only at hSw); go_simp; try with_reducible rfl)
          try simp only [Act.put, List.setIfInBounds_toArray, List.set_cons_zero, List.set_cons_succ]
          refine wpAnyH_take (i := 2) (oi := ⟨some 160, _, _, _, _, _⟩) (v := ?_) rfl (by kernel_rfl) (by kernel_rfl) (by kernel_rfl) (fun _ _ _ h => h) (Or.inl ⟨by rfl, ?_⟩) (by assumption) ?_
          rotate_left
          · (intro w hSw; (try dsimp only at hSw); go_simp; try with_reducible rfl)
          try simp only [Act.put, List.setIfInBounds_toArray, List.set_cons_zero, List.set_cons_succ]
          refine wpAnyH_take (i := 3) (oi := ⟨some 161, _, _, _, _, _⟩) (v := ?_) rfl (by kernel_rfl) (by kernel_rfl) (by kernel_rfl) (fun _ _ _ h => h) (Or.inl ⟨by rfl, ?_⟩) (by assumption) ?_
          rotate_left
          · (intro w hSw; (try dsimp only at hSw); go_simp; try with_reducible rfl)
          try simp only [Act.put, List.setIfInBounds_toArray, List.set_cons_zero, List.set_cons_succ]
          refine wpAnyH_take (i := 4) (oi := ⟨some 162, _, _, _, _, _⟩) (v := ?_) rfl (by kernel_rfl) (by kernel_rfl) (by kernel_rfl) (fun _ _ _ h => h) (Or.inl ⟨by rfl, ?_⟩) (by assumption) ?_
          rotate_left
          · (intro w hSw; (try dsimp only at hSw); go_simp; try with_reducible rfl)
          try simp only [Act.put, List.setIfInBounds_toArray, List.set_cons_zero, List.set_cons_succ]
          refine wpAnyH_take (i := 5) (oi := ⟨some 163, _, _, _, _, _⟩) (v := ?_) rfl (by kernel_rfl) (by kernel_rfl) (by kernel_rfl) (fun _ _ _ h => h) (Or.inl ⟨by rfl, ?_⟩) (by assumption) ?_
          rotate_left
          · (intro w hSw; (try dsimp only at hSw); go_simp; try with_reducible rfl)
          try simp only [Act.put, List.setIfInBounds_toArray, List.set_cons_zero, List.set_cons_succ]
          refine wpAnyH_take (i := 6) (oi := ⟨some 164, _, _, _, _, _⟩) (v := ?_) rfl (by kernel_rfl) (by kernel_rfl) (by kernel_rfl) (fun _ _ _ h => h) (Or.inl ⟨by rfl, ?_⟩) (by assumption) ?_
          rotate_left
          · (intro w hSw; (try dsimp only at hSw); go_simp; try with_reducible rfl)
          try simp only [Act.put, List.setIfInBounds_toArray, List.set_cons_zero, List.set_cons_succ]
          refine wpAnyH_take (i := 7) (oi := ⟨some 165, _, _, _, _, _⟩) (v := ?_) rfl (by kernel_rfl) (by kernel_rfl) (by kernel_rfl) (fun _ _ _ h => h) (Or.inl ⟨by rfl, ?_⟩) (by assumption) ?_
          rotate_left
          · (intro w hSw; (try dsimp only at hSw); go_simp; try with_reducible rfl)
          try simp only [Act.put, List.setIfInBounds_toArray, List.set_cons_zero, List.set_cons_succ]
          refine wpAnyH_take (i := 8) (oi := ⟨some 166, _, _, _, _, _⟩) (v := ?_) rfl (by kernel_rfl) (by kernel_rfl) (by kernel_rfl) (fun _ _ _ h => h) (Or.inl ⟨by rfl, ?_⟩) (by assumption) ?_
          rotate_left
          · (intro w hSw; (try dsimp only at hSw); go_simp; try with_reducible rfl)
          try simp only [Act.put, List.setIfInBounds_toArray, List.set_cons_zero, List.set_cons_succ]
          refine wpAnyH_take (i := 9) (oi := ⟨some 167, _, _, _, _, _⟩) (v := ?_) rfl (by kernel_rfl) (by kernel_rfl) (by kernel_rfl) (fun _ _ _ h => h) (Or.inl ⟨by rfl, ?_⟩) (by assumption) ?_
          rotate_left
          · (intro w hSw; (try dsimp only at hSw); go_simp; try with_reducible rfl)
          try simp only [Act.put, List.setIfInBounds_toArray, List.set_cons_zero, List.set_cons_succ]
          refine wpAnyH_take (i := 10) (oi := ⟨some 168, _, _, _, _, _⟩) (v := ?_) rfl (by kernel_rfl) (by kernel_rfl) (by kernel_rfl) (fun _ _ _ h => h) (Or.inl ⟨by rfl, ?_⟩) (by assumption) ?_
          rotate_left
          · (intro w hSw; (try dsimp only at hSw); go_simp; try with_reducible rfl)
          try simp only [Act.put, List.setIfInBounds_toArray, List.set_cons_zero, List.set_cons_succ]
          refine wpAnyH_ready (rs := [11]) (by kernel_rfl) (by simp) ?_
          refine AllReadyH.cons (o := ⟨some 169, _, _, _, _, _⟩) rfl (fun K hK => ?_) AllReadyH.nil
          go_simp
          go_at_call 98; refine (HC.out _ (HCH.out.then_below hHeld.1.2) y x hyd hxd).mono ?_; rintro e w6 ⟨rfl, hb6⟩
          (try go_wp2_with fail)
          refine hK.out _ _ (keepM8 hgl hgl hgl hgl hgl hgl hgl hgl ‹_ ∧ _› hb6) (fun hHeld => ?_)
          clear hK K
          try simp only [Act.put, List.setIfInBounds_toArray, List.set_cons_zero, List.set_cons_succ]
          refine wpAnyH_take (i := 12) (oi := ⟨some 170, _, _, _, _, _⟩) (v := ?_) rfl (by kernel_rfl) (by kernel_rfl) (by kernel_rfl) (fun _ _ _ h => h) (Or.inl ⟨by rfl, ?_⟩) (by assumption) ?_
          rotate_left
          · (intro w hSw; (try dsimp only at hSw); go_simp; try with_reducible rfl)
          try simp only [Act.put, List.setIfInBounds_toArray, List.set_cons_zero, List.set_cons_succ]
          refine wpAnyH_take (i := 13) (oi := ⟨some 171, _, _, _, _, _⟩) (v := ?_) rfl (by kernel_rfl) (by kernel_rfl) (by kernel_rfl) (fun _ _ _ h => h) (Or.inl ⟨by rfl, ?_⟩) (by assumption) ?_
          rotate_left
          · (intro w hSw; (try dsimp only at hSw); go_simp; try with_reducible rfl)
          try simp only [Act.put, List.setIfInBounds_toArray, List.set_cons_zero, List.set_cons_succ]
          refine wpAnyH_done (by kernel_rfl) ?_ _
          obtain ⟨⟨-, hBw⟩, -⟩ := hHeld
          have HD6 := hid (DatAt.below HDA.out hBw)
          have HC6 := hid (HCH.out.then_below hBw)
          clear a0 a1 a2 a3 b0 b1 b2 b3 hb6 hBw
          go_wp2_with fail
          go_roundw
          case rel => exact ⟨i, h, ⟨rfl, rfl⟩, ⟨hi1, h1, by omega⟩, HZ2.out, HC6.out, HD6.out⟩
          case measure => simp [intOf]; omega
        · have hk2 : ¬ key y - key x < 0 := by omega
          have hk3 : decide (key y - key x < 0) = false := decide_eq_false hk2
          have HZ2 := hid (show (h + 1 = lo ∨ ∃ (h1 : h + 1 - 1 - a < X.length) (h2 : N - (h + 1) - m < Y.length), key X[h + 1 - 1 - a] ≤ key Y[N - (h + 1) - m]) ∧ (j = hi ∨ ∃ (h1 : j - a < X.length) (h2 : p - j - m < Y.length), key Y[p - j - m] < key X[j - a]) from ⟨.inr (by
            have e2 : N - (h + 1) - m = u - m := by have := HN.out; have := HU.out; omega
            have e3 : h + 1 - 1 - a = h - a := by omega
            simp only [e2, e3]
            exact ⟨hhm, hum, by rw [← HXE.out, ← HYE.out]; omega⟩), HZ.out.2⟩)
          clear hk
          go_wp2_with fail
          refine wp_region_held_drew (S := (fun w' => (True ∧ Below wr.heap.size wr w') ∧ w'.cell? ⟨g, u * 4, none⟩ = some (.int .i64 y.fDay) ∧ w'.cell? ⟨g, u * 4 + 1, none⟩ = some (.string y.fWho) ∧ w'.cell? ⟨g, u * 4 + 2, none⟩ = some (.int .i64 y.fKind) ∧ w'.cell? ⟨g, u * 4 + 3, none⟩ = some (.int .i64 y.fAmount) ∧ w'.cell? ⟨g, h * 4, none⟩ = some (.int .i64 x.fDay) ∧ w'.cell? ⟨g, h * 4 + 1, none⟩ = some (.string x.fWho) ∧ w'.cell? ⟨g, h * 4 + 2, none⟩ = some (.int .i64 x.fKind) ∧ w'.cell? ⟨g, h * 4 + 3, none⟩ = some (.int .i64 x.fAmount))) (by kernel_rfl) ⟨⟨trivial, (Below.refl _ _).drew⟩, a0, a1, a2, a3, b0, b1, b2, b3⟩ (fun hHeld => ?_)
          refine wpAnyH_take (i := 0) (oi := ⟨some 158, _, _, _, _, _⟩) (v := ?_) rfl (by kernel_rfl) (by kernel_rfl) (by kernel_rfl) (fun _ _ _ h => h) (Or.inl ⟨by rfl, ?_⟩) (by assumption) ?_
          rotate_left
          · (intro w hSw; (try dsimp only at hSw); go_simp; try with_reducible rfl)
          try simp only [Act.put, List.setIfInBounds_toArray, List.set_cons_zero, List.set_cons_succ]
          refine wpAnyH_take (i := 1) (oi := ⟨some 159, _, _, _, _, _⟩) (v := ?_) rfl (by kernel_rfl) (by kernel_rfl) (by kernel_rfl) (fun _ _ _ h => h) (Or.inl ⟨by rfl, ?_⟩) (by assumption) ?_
          rotate_left
          · (intro w hSw; (try dsimp only at hSw); go_simp; try with_reducible rfl)
          try simp only [Act.put, List.setIfInBounds_toArray, List.set_cons_zero, List.set_cons_succ]
          refine wpAnyH_take (i := 2) (oi := ⟨some 160, _, _, _, _, _⟩) (v := ?_) rfl (by kernel_rfl) (by kernel_rfl) (by kernel_rfl) (fun _ _ _ h => h) (Or.inl ⟨by rfl, ?_⟩) (by assumption) ?_
          rotate_left
          · (intro w hSw; (try dsimp only at hSw); go_simp; try with_reducible rfl)
          try simp only [Act.put, List.setIfInBounds_toArray, List.set_cons_zero, List.set_cons_succ]
          refine wpAnyH_take (i := 3) (oi := ⟨some 161, _, _, _, _, _⟩) (v := ?_) rfl (by kernel_rfl) (by kernel_rfl) (by kernel_rfl) (fun _ _ _ h => h) (Or.inl ⟨by rfl, ?_⟩) (by assumption) ?_
          rotate_left
          · (intro w hSw; (try dsimp only at hSw); go_simp; try with_reducible rfl)
          try simp only [Act.put, List.setIfInBounds_toArray, List.set_cons_zero, List.set_cons_succ]
          refine wpAnyH_take (i := 4) (oi := ⟨some 162, _, _, _, _, _⟩) (v := ?_) rfl (by kernel_rfl) (by kernel_rfl) (by kernel_rfl) (fun _ _ _ h => h) (Or.inl ⟨by rfl, ?_⟩) (by assumption) ?_
          rotate_left
          · (intro w hSw; (try dsimp only at hSw); go_simp; try with_reducible rfl)
          try simp only [Act.put, List.setIfInBounds_toArray, List.set_cons_zero, List.set_cons_succ]
          refine wpAnyH_take (i := 5) (oi := ⟨some 163, _, _, _, _, _⟩) (v := ?_) rfl (by kernel_rfl) (by kernel_rfl) (by kernel_rfl) (fun _ _ _ h => h) (Or.inl ⟨by rfl, ?_⟩) (by assumption) ?_
          rotate_left
          · (intro w hSw; (try dsimp only at hSw); go_simp; try with_reducible rfl)
          try simp only [Act.put, List.setIfInBounds_toArray, List.set_cons_zero, List.set_cons_succ]
          refine wpAnyH_take (i := 6) (oi := ⟨some 164, _, _, _, _, _⟩) (v := ?_) rfl (by kernel_rfl) (by kernel_rfl) (by kernel_rfl) (fun _ _ _ h => h) (Or.inl ⟨by rfl, ?_⟩) (by assumption) ?_
          rotate_left
          · (intro w hSw; (try dsimp only at hSw); go_simp; try with_reducible rfl)
          try simp only [Act.put, List.setIfInBounds_toArray, List.set_cons_zero, List.set_cons_succ]
          refine wpAnyH_take (i := 7) (oi := ⟨some 165, _, _, _, _, _⟩) (v := ?_) rfl (by kernel_rfl) (by kernel_rfl) (by kernel_rfl) (fun _ _ _ h => h) (Or.inl ⟨by rfl, ?_⟩) (by assumption) ?_
          rotate_left
          · (intro w hSw; (try dsimp only at hSw); go_simp; try with_reducible rfl)
          try simp only [Act.put, List.setIfInBounds_toArray, List.set_cons_zero, List.set_cons_succ]
          refine wpAnyH_take (i := 8) (oi := ⟨some 166, _, _, _, _, _⟩) (v := ?_) rfl (by kernel_rfl) (by kernel_rfl) (by kernel_rfl) (fun _ _ _ h => h) (Or.inl ⟨by rfl, ?_⟩) (by assumption) ?_
          rotate_left
          · (intro w hSw; (try dsimp only at hSw); go_simp; try with_reducible rfl)
          try simp only [Act.put, List.setIfInBounds_toArray, List.set_cons_zero, List.set_cons_succ]
          refine wpAnyH_take (i := 9) (oi := ⟨some 167, _, _, _, _, _⟩) (v := ?_) rfl (by kernel_rfl) (by kernel_rfl) (by kernel_rfl) (fun _ _ _ h => h) (Or.inl ⟨by rfl, ?_⟩) (by assumption) ?_
          rotate_left
          · (intro w hSw; (try dsimp only at hSw); go_simp; try with_reducible rfl)
          try simp only [Act.put, List.setIfInBounds_toArray, List.set_cons_zero, List.set_cons_succ]
          refine wpAnyH_take (i := 10) (oi := ⟨some 168, _, _, _, _, _⟩) (v := ?_) rfl (by kernel_rfl) (by kernel_rfl) (by kernel_rfl) (fun _ _ _ h => h) (Or.inl ⟨by rfl, ?_⟩) (by assumption) ?_
          rotate_left
          · (intro w hSw; (try dsimp only at hSw); go_simp; try with_reducible rfl)
          try simp only [Act.put, List.setIfInBounds_toArray, List.set_cons_zero, List.set_cons_succ]
          refine wpAnyH_ready (rs := [11]) (by kernel_rfl) (by simp) ?_
          refine AllReadyH.cons (o := ⟨some 169, _, _, _, _, _⟩) rfl (fun K hK => ?_) AllReadyH.nil
          go_simp
          go_at_call 98; refine (HC.out _ (HCH.out.then_below hHeld.1.2) y x hyd hxd).mono ?_; rintro e w6 ⟨rfl, hb6⟩
          (try go_wp2_with fail)
          refine hK.out _ _ (keepM8 hgl hgl hgl hgl hgl hgl hgl hgl ‹_ ∧ _› hb6) (fun hHeld => ?_)
          clear hK K
          try simp only [Act.put, List.setIfInBounds_toArray, List.set_cons_zero, List.set_cons_succ]
          refine wpAnyH_take (i := 12) (oi := ⟨some 170, _, _, _, _, _⟩) (v := ?_) rfl (by kernel_rfl) (by kernel_rfl) (by kernel_rfl) (fun _ _ _ h => h) (Or.inl ⟨by rfl, ?_⟩) (by assumption) ?_
          rotate_left
          · (intro w hSw; (try dsimp only at hSw); go_simp; try with_reducible rfl)
          try simp only [Act.put, List.setIfInBounds_toArray, List.set_cons_zero, List.set_cons_succ]
          refine wpAnyH_take (i := 13) (oi := ⟨some 171, _, _, _, _, _⟩) (v := ?_) rfl (by kernel_rfl) (by kernel_rfl) (by kernel_rfl) (fun _ _ _ h => h) (Or.inl ⟨by rfl, ?_⟩) (by assumption) ?_
          rotate_left
          · (intro w hSw; (try dsimp only at hSw); go_simp; try with_reducible rfl)
          try simp only [Act.put, List.setIfInBounds_toArray, List.set_cons_zero, List.set_cons_succ]
          refine wpAnyH_done (by kernel_rfl) ?_ _
          obtain ⟨⟨-, hBw⟩, -⟩ := hHeld
          have HD6 := hid (DatAt.below HDA.out hBw)
          have HC6 := hid (HCH.out.then_below hBw)
          clear a0 a1 a2 a3 b0 b1 b2 b3 hb6 hBw
          go_wp2_with fail
          go_roundw
          case rel => exact ⟨h + 1, j, ⟨by go_num, rfl⟩, ⟨by omega, by omega, hj⟩, HZ2.out, HC6.out, HD6.out⟩
          case measure => simp [intOf]; omega
      · obtain rfl : i = j := by omega
        have q0 : ¬ (i : Int) < (i : Int) := by omega
        obtain ⟨E, hE⟩ : ∃ E, E = N - i := ⟨_, rfl⟩
        have n1 : N = k + m := by have := HP.out; have := HN.out; omega
        have v4 : (N : Int) - (i : Int) = (E : Int) := by omega
        have b1 : m ≤ E := by omega
        have b2 : E ≤ b := by omega
        have b3 : E + i = k + m := by omega
        obtain ⟨L1, L2, R1, R2, hLR, hl, hup, hMG⟩ : ∃ L1 L2 R1 R2 : List DVisit, (X = L1 ++ L2 ∧ Y = R1 ++ R2) ∧ ((a + L1.length = i ∧ i + L2.length = m) ∧ (i + R1.length = k ∧ E + R2.length = b)) ∧ ((UpK key L1 ∧ UpK key L2) ∧ UpK key R1 ∧ UpK key R2) ∧ ∀ z1 z2, UpK key z1 → SameK key (L1 ++ R1) z1 → UpK key z2 → SameK key (L2 ++ R2) z2 → UpK key (z1 ++ z2) ∧ SameK key (X ++ Y) (z1 ++ z2) := by
          have hx9 : UpK key (X.take (i - a) ++ X.drop (i - a)) := by rw [List.take_append_drop]; exact HX.out
          have hy9 : UpK key (Y.take (E - m) ++ Y.drop (E - m)) := by rw [List.take_append_drop]; exact HY.out
          have hM := HM.out
          have hB := HB.out
          refine ⟨X.take (i - a), X.drop (i - a), Y.take (E - m), Y.drop (E - m), ⟨(List.take_append_drop _ _).symm, (List.take_append_drop _ _).symm⟩, ⟨⟨by rw [List.length_take]; omega, by rw [List.length_drop]; omega⟩, by rw [List.length_take]; omega, by rw [List.length_drop]; omega⟩, ⟨⟨hx9.left, hx9.right⟩, hy9.left, hy9.right⟩, fun z1 z2 u1 t1 u2 t2 => ?_⟩
          have h9 := merge_mid (key := key) hx9 hy9 (border HX.out HY.out (by
            rcases HZ.out.1 with h | ⟨h1, h2, h3⟩
            · rcases HLH.out with h8 | h8
              · exact .inr (.inl (by omega))
              · exact .inl (by omega)
            · have e : i - 1 - a = i - a - 1 := by omega
              simp only [e, ← hE] at h1 h2 h3
              exact .inr (.inr ⟨h1, h2, h3⟩))) (border_lt HX.out HY.out (by
            rcases HZ.out.2 with h | ⟨h1, h2, h3⟩
            · rcases HLH.out with h8 | h8
              · exact .inr (.inl (by omega))
              · exact .inl (by omega)
            · have e : p - i - m = E - m - 1 := by have := HN.out; omega
              simp only [e] at h1 h2 h3
              exact .inr (.inr ⟨h1, h2, h3⟩))) u1 t1 u2 t2
          rw [List.take_append_drop, List.take_append_drop] at h9
          exact h9
        have HLR := hid hLR
        have HUP := hid hup
        have HMG := hid hMG
        have HHL := hid hl
        have HD1 := hid (show DatAt 76 4 DVisit.cells B g cap n ((P ++ L1) ++ (L2 ++ (R1 ++ (R2 ++ Q)))) wr by have h9 := HDA.out; rw [hLR.1, hLR.2] at h9; simpa using h9)
        have hd12 : ∀ x ∈ L1 ++ R1, D x := fun x hx => HD.out x (by rw [hLR.1, hLR.2]; simp only [List.mem_append] at hx ⊢; rcases hx with h | h; exact .inl (.inl h); exact .inr (.inl h))
        have hd34 : ∀ x ∈ L2 ++ R2, D x := fun x hx => HD.out x (by rw [hLR.1, hLR.2]; simp only [List.mem_append] at hx ⊢; rcases hx with h | h; exact .inl (.inr h); exact .inr (.inr h))
        have HD12 := hid hd12
        have HD34 := hid hd34
        have HE := hid hE
        have HB3 := hid b3
        clear hLR hup hMG hd12 hd34 HX HY HZ HDA hl hE b3 n1
        obtain ⟨bt, hbt⟩ : ∃ bt, bt = decide (i < m ∧ i < k) := ⟨_, rfl⟩
        have HBT := hid hbt
        clear hbt
        go_upto_region 39 with fail
        go_cut [185] from 178 to 185 (fun s9 wx => s9 = .bool bt ∧ wx = wr)
        case first =>
          by_cases h1 : i < m
          · have e1 : (i : Int) < (m : Int) := by have := HB3.out; omega
            by_cases h2 : i < k
            · have e2 : (m : Int) < (E : Int) := by have := HB3.out; omega
              have HB9 := hid (show bt = true by rw [HBT.out]; exact decide_eq_true ⟨h1, h2⟩)
              clear h1 h2 HBT
              go_wp2_with fail
              go_meet
              exact ⟨congrArg Value.bool HB9.out.symm, rfl⟩
            · have e2 : ¬ (m : Int) < (E : Int) := by have := HB3.out; omega
              have HB9 := hid (show bt = false by rw [HBT.out]; exact decide_eq_false (fun h => h2 h.2))
              clear h1 h2 HBT
              go_wp2_with fail
              go_meet
              exact ⟨congrArg Value.bool HB9.out.symm, rfl⟩
          · have e1 : ¬ (i : Int) < (m : Int) := by have := HB3.out; omega
            have HB9 := hid (show bt = false by rw [HBT.out]; exact decide_eq_false (fun h => h1 h.1))
            clear h1 HBT
            go_wp2_with fail
            go_meet
            exact ⟨congrArg Value.bool HB9.out.symm, rfl⟩
        case rest =>
          obtain ⟨rfl, rfl⟩ := hcut
          rename World => wr
          go_upto_if 185 with fail
          go_cut [24] from 186 to 191 (fun s9 wx => s9 = .int .i64 (E : Int) ∧ Chg g (g + 1) w0 wx ∧ DatAt 76 4 DVisit.cells B g cap n (P ++ (L1 ++ (R1 ++ (L2 ++ (R2 ++ Q))))) wx)
          case first =>
            cases bt
            · have HD2 := hid (show DatAt 76 4 DVisit.cells B g cap n (P ++ (L1 ++ (R1 ++ (L2 ++ (R2 ++ Q))))) wr by
                have h8 := HHL.out
                have h7 : L2 = [] ∨ R1 = [] := by
                  have h6 := of_decide_eq_false HBT.out.symm
                  by_cases h5 : i < m
                  · exact .inr (List.eq_nil_of_length_eq_zero (by omega))
                  · exact .inl (List.eq_nil_of_length_eq_zero (by omega))
                have h9 := HD1.out
                rcases h7 with rfl | rfl <;> simpa using h9)
              go_wp2_with fail
              go_meet
              exact ⟨rfl, HCH.out, HD2.out⟩
            · have h8 := of_decide_eq_true HBT.out.symm
              have HL0 := hid (show 0 < L2.length ∧ 0 < R1.length by have := HHL.out; have := HB3.out; omega)
              clear h8
              go_wp2_with fail
              refine (rotV_ok B g cap n w0 hg hn (P ++ L1) L2 R1 (R2 ++ Q) i m E (by rw [List.length_append]; have := HA.out; have := HHL.out; have := HB3.out; omega) (by have := HHL.out; have := HB3.out; omega) (by have := HHL.out; have := HB3.out; omega) HL0.out.1 HL0.out.2 _ HCH.out HD1.out).mono ?_
              rintro e w6 ⟨rfl, hch6, hd6⟩
              have HC6 := hid hch6
              have HD6 := hid hd6
              clear hch6 hd6
              go_wp2_with fail
              go_meet
              exact ⟨rfl, HC6.out, by have h9 := HD6.out; rw [List.append_assoc] at h9; exact h9⟩
          case rest =>
            clear HCH HD1 HBT hgl
            obtain ⟨rfl, hch, hd⟩ := hcut
            rename World => W2
            have HCH := hid hch
            have HD1 := hid hd
            clear hch hd
            obtain ⟨bt2, hbt2⟩ : ∃ bt, bt = decide (a < i ∧ i < k) := ⟨_, rfl⟩
            have HBT := hid hbt2
            clear hbt2
            go_upto_region 41 with fail
            go_cut [199] from 192 to 199 (fun s9 wx => s9 = .bool bt2 ∧ wx = W2)
            case first =>
              by_cases h1 : a < i
              · have e1 : (a : Int) < (i : Int) := by have := HB3.out; omega
                by_cases h2 : i < k
                · have e2 : (i : Int) < (k : Int) := by have := HB3.out; omega
                  have HB9 := hid (show bt2 = true by rw [HBT.out]; exact decide_eq_true ⟨h1, h2⟩)
                  clear h1 h2 HBT
                  go_wp2_with fail
                  go_meet
                  exact ⟨congrArg Value.bool HB9.out.symm, rfl⟩
                · have e2 : ¬ (i : Int) < (k : Int) := by have := HB3.out; omega
                  have HB9 := hid (show bt2 = false by rw [HBT.out]; exact decide_eq_false (fun h => h2 h.2))
                  clear h1 h2 HBT
                  go_wp2_with fail
                  go_meet
                  exact ⟨congrArg Value.bool HB9.out.symm, rfl⟩
              · have e1 : ¬ (a : Int) < (i : Int) := by have := HB3.out; omega
                have HB9 := hid (show bt2 = false by rw [HBT.out]; exact decide_eq_false (fun h => h1 h.1))
                clear h1 HBT
                go_wp2_with fail
                go_meet
                exact ⟨congrArg Value.bool HB9.out.symm, rfl⟩
            case rest =>
              obtain ⟨rfl, rfl⟩ := hcut
              rename World => W2
              go_upto_if 199 with fail
              go_cut [24] from 200 to 205 (fun s9 wx => s9 = .int .i64 (E : Int) ∧ ∃ Z1, (UpK key Z1 ∧ SameK key (L1 ++ R1) Z1) ∧ Chg g (g + 1) w0 wx ∧ DatAt 76 4 DVisit.cells B g cap n (P ++ (Z1 ++ (L2 ++ (R2 ++ Q)))) wx)
              case first =>
                cases bt2
                · have HU2 := hid (show UpK key (L1 ++ R1) by
                    have h8 := HHL.out
                    have h3 := HB3.out
                    have h7 : L1 = [] ∨ R1 = [] := by
                      have h6 := of_decide_eq_false HBT.out.symm
                      by_cases h5 : a < i
                      · exact .inr (List.eq_nil_of_length_eq_zero (by omega))
                      · exact .inl (List.eq_nil_of_length_eq_zero (by omega))
                    rcases h7 with rfl | rfl
                    · simpa using HUP.out.2.1
                    · simpa using HUP.out.1.1)
                  go_wp2_with fail
                  go_meet
                  exact ⟨rfl, L1 ++ R1, ⟨HU2.out, SameK.refl _ _⟩, HCH.out, by have h9 := HD1.out; simpa using h9⟩
                · have h8 := of_decide_eq_true HBT.out.symm
                  have HL0 := hid (show 0 < L1.length ∧ 0 < R1.length by have := HHL.out; have := HB3.out; omega)
                  clear h8
                  go_wp2_with fail
                  refine (HI.out P L1 R1 (L2 ++ (R2 ++ Q)) a i k (by omega) HA.out HHL.out.1.1 HHL.out.2.1 HL0.out.1 HL0.out.2 HUP.out.1.1 HUP.out.2.1 HD12.out _ HCH.out HD1.out).mono ?_
                  rintro e w6 ⟨rfl, Z1, hz, hch6, hd6⟩
                  have HZ6 := hid hz
                  have HC6 := hid hch6
                  have HD6 := hid hd6
                  clear hz hch6 hd6
                  go_wp2_with fail
                  go_meet
                  exact ⟨rfl, Z1, HZ6.out, HC6.out, HD6.out⟩
              case rest =>
                clear HCH HD1 HBT
                obtain ⟨rfl, Z1, hz, hch, hd⟩ := hcut
                rename World => W3
                have HCH := hid hch
                have HD1 := hid (show DatAt 76 4 DVisit.cells B g cap n ((P ++ Z1) ++ (L2 ++ (R2 ++ Q))) W3 by rw [List.append_assoc]; exact hd)
                have HZ1 := hid hz
                have HPZ := hid (show (P ++ Z1).length = k by rw [List.length_append, hz.2.1, List.length_append]; have := HA.out; have := HHL.out; have := HB3.out; omega)
                clear hch hd hz
                obtain ⟨bt3, hbt3⟩ : ∃ bt, bt = decide (i < m ∧ E < b) := ⟨_, rfl⟩
                have HBT := hid hbt3
                clear hbt3
                go_upto_region 43 with fail
                go_cut [213] from 206 to 213 (fun s9 wx => s9 = .bool bt3 ∧ wx = W3)
                case first =>
                  by_cases h1 : i < m
                  · have e1 : (k : Int) < (E : Int) := by have := HB3.out; omega
                    by_cases h2 : E < b
                    · have e2 : (E : Int) < (b : Int) := by have := HB3.out; omega
                      have HB9 := hid (show bt3 = true by rw [HBT.out]; exact decide_eq_true ⟨h1, h2⟩)
                      clear h1 h2 HBT
                      go_wp2_with fail
                      go_meet
                      exact ⟨congrArg Value.bool HB9.out.symm, rfl⟩
                    · have e2 : ¬ (E : Int) < (b : Int) := by have := HB3.out; omega
                      have HB9 := hid (show bt3 = false by rw [HBT.out]; exact decide_eq_false (fun h => h2 h.2))
                      clear h1 h2 HBT
                      go_wp2_with fail
                      go_meet
                      exact ⟨congrArg Value.bool HB9.out.symm, rfl⟩
                  · have e1 : ¬ (k : Int) < (E : Int) := by have := HB3.out; omega
                    have HB9 := hid (show bt3 = false by rw [HBT.out]; exact decide_eq_false (fun h => h1 h.1))
                    clear h1 HBT
                    go_wp2_with fail
                    go_meet
                    exact ⟨congrArg Value.bool HB9.out.symm, rfl⟩
                case rest =>
                  obtain ⟨rfl, rfl⟩ := hcut
                  rename World => W3
                  go_upto_if 213 with fail
                  cases bt3
                  · have HU2 := hid (show UpK key (L2 ++ R2) by
                      have h8 := HHL.out
                      have h3 := HB3.out
                      have h7 : L2 = [] ∨ R2 = [] := by
                        have h6 := of_decide_eq_false HBT.out.symm
                        by_cases h5 : i < m
                        · exact .inr (List.eq_nil_of_length_eq_zero (by omega))
                        · exact .inl (List.eq_nil_of_length_eq_zero (by omega))
                      rcases h7 with rfl | rfl
                      · simpa using HUP.out.2.2
                      · simpa using HUP.out.1.2)
                    go_wp2_with fail
                    (try simp only [Exit.inBlock, Exit.then]); first | refine bodyPost_ret (results_none rfl _ _ _) rfl ?_ | refine bodyPost_end (results_none rfl _ _ _) rfl ?_
                    exact ⟨rfl, Z1 ++ (L2 ++ R2), HMG.out Z1 (L2 ++ R2) HZ1.out.1 HZ1.out.2 HU2.out (SameK.refl _ _), HCH.out, by have h9 := HD1.out; simpa using h9⟩
                  · have h8 := of_decide_eq_true HBT.out.symm
                    have HL0 := hid (show 0 < L2.length ∧ 0 < R2.length by have := HHL.out; have := HB3.out; omega)
                    clear h8
                    go_wp2_with fail
                    refine (HI.out (P ++ Z1) L2 R2 Q k E b (by omega) HPZ.out (by have := HHL.out; have := HB3.out; omega) HHL.out.2.2 HL0.out.1 HL0.out.2 HUP.out.1.2 HUP.out.2.2 HD34.out _ HCH.out HD1.out).mono ?_
                    rintro e w6 ⟨rfl, Z2, hz, hch6, hd6⟩
                    have HZ6 := hid hz
                    have HC6 := hid hch6
                    have HD6 := hid hd6
                    clear hz hch6 hd6
                    go_wp2_with fail
                    (try simp only [Exit.inBlock, Exit.then]); first | refine bodyPost_ret (results_none rfl _ _ _) rfl ?_ | refine bodyPost_end (results_none rfl _ _ _) rfl ?_
                    exact ⟨rfl, Z1 ++ Z2, HMG.out Z1 Z2 HZ1.out.1 HZ1.out.2 HZ6.out.1 HZ6.out.2, HC6.out, by have h9 := HD6.out; simpa using h9⟩
theorem symV_all (key : DVisit → Int) (D : DVisit → Prop) (B g cap n : Nat) (w0 : World) (hC : CmpV key D g w0) (hg : g < w0.heap.size) (hn : n ≤ 1000) (L : Nat) : SymAllV key D B g cap n w0 L := by
  induction L with
  | zero => intro P X Y Q a m b h1 h2 h3 h4 h5 h6; omega
  | succ L ih =>
    intro P X Y Q a m b h1 h2 h3 h4 h5 h6 uX uY hD w hch hd
    by_cases hx : X.length = 1
    · obtain ⟨x, rfl⟩ := List.length_eq_one_iff.1 hx
      exact symV_left key D B g cap n w0 hC hg hn x P Y Q a m b h2 h3 h4 uY hD w hch hd
    · by_cases hy : Y.length = 1
      · obtain ⟨y, rfl⟩ := List.length_eq_one_iff.1 hy
        exact symV_right key D B g cap n w0 hC hg hn y P X Q a m b h2 h3 h4 uX (by omega) hD w hch hd
      · exact symV_step key D B g cap n w0 hC hg hn L ih P X Y Q a m b h2 h3 h4 uX uY hD w hch hd (by omega) (by omega) h1

end Go.Proofs.Ytjeklbhdngkngaa
