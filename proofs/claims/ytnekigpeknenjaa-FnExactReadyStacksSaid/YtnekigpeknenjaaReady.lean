/- ReadyStacks: impl's and spec's functions. -/
import Derived.Test.YtnekigpeknenjaaDrying
import Derived.Test.YtnekigpeknenjaaVStack
import Derived.Test.YtnekigpeknenjaaMarks
namespace Go.Proofs.Ytnekigpeknenjaa
open Go.RowKit
set_option linter.unusedVariables false

theorem even_case {h : Int} {i : Nat} (h0 : 0 ≤ h) (hi : (i = 1 ∧ h ≤ 300) ∨ (i = 2 ∧ 300 < h ∧ h ≤ 600) ∨ (i = 3 ∧ 600 < h ∧ h ≤ 800) ∨ (i = 4 ∧ 800 < h)) :
    evenR h = lineR (([0, 300, 600, 800, 1000] : List Int).getD (i - 1) 0) (([0, 60, 110, 160, 280] : List Int).getD (i - 1) 0) (([0, 300, 600, 800, 1000] : List Int).getD i 0) (([0, 60, 110, 160, 280] : List Int).getD i 0) h := by
  unfold evenR
  rcases hi with ⟨rfl, h1⟩ | ⟨rfl, h1, h2⟩ | ⟨rfl, h1, h2⟩ | ⟨rfl, h1⟩
  · rw [if_pos h1]; rfl
  · rw [if_neg (by omega), if_pos h2]; rfl
  · rw [if_neg (by omega), if_neg (by omega), if_pos h2]; rfl
  · rw [if_neg (by omega), if_neg (by omega), if_neg (by omega)]; rfl

set_option maxHeartbeats 800000 in
theorem even_1 (h : Int) (w : World) (h0 : 0 ≤ h) (h2 : h ≤ 300) : Calls Try.prog 173 #[.int .i64 h] w fun e w' => e = .returned (.int .i64 (evenR h)) ∧ Below w.heap.size w w' := by
  have HE := hid (even_case (h := h) (i := 1) h0 (.inl ⟨rfl, by omega⟩))
  have LB : LineBd 0 0 300 60 h := by unfold LineBd; omega
  have HL := hid LB
  have ew : IntKind.i64.wrap 0 = 0 := IntWalk.i64_in _ (by omega)
  clear LB
  go_enter Try.func173, Try.ntmps173
  go_wp2_with fail
  go_loop [4] (fun i => ∃ k : Nat, 1 ≤ k ∧ k ≤ 1 ∧ i = .int .i64 k) (fun i => 1 - (intOf i).toNat)
  case atStart => exact ⟨1, by omega, by omega, rfl⟩
  case round =>
    obtain ⟨k, hk1, hk2, rfl⟩ := hrel
    obtain rfl : k = 1 := by omega
    go_wp2_with fail
    go_quiet ((go_at_call 200; exact quiet_left (blend_ok _ _ _ _ _ _ HL.out)))
    go_wp2_with fail
    go_ret
    exact ⟨ret_int HE.out.symm, by first | exact below_drewN' (below_alloc _ _) _ | exact below_drewN' ((below_alloc _ _).alloc (by simp) _) _⟩
set_option maxHeartbeats 800000 in
theorem even_2 (h : Int) (w : World) (h0 : 0 ≤ h) (h1 : 300 < h) (h2 : h ≤ 600) : Calls Try.prog 173 #[.int .i64 h] w fun e w' => e = .returned (.int .i64 (evenR h)) ∧ Below w.heap.size w w' := by
  have HE := hid (even_case (h := h) (i := 2) h0 (.inr (.inl ⟨rfl, by omega, by omega⟩)))
  have LB : LineBd 300 60 600 110 h := by unfold LineBd; omega
  have HL := hid LB
  have ew : IntKind.i64.wrap 1 = 1 := IntWalk.i64_in _ (by omega)
  clear LB
  go_enter Try.func173, Try.ntmps173
  go_wp2_with fail
  go_loop [4] (fun i => ∃ k : Nat, 1 ≤ k ∧ k ≤ 2 ∧ i = .int .i64 k) (fun i => 2 - (intOf i).toNat)
  case atStart => exact ⟨1, by omega, by omega, rfl⟩
  case round =>
    obtain ⟨k, hk1, hk2, rfl⟩ := hrel
    obtain rfl | rfl : k = 1 ∨ k = 2 := by omega
    · go_wp2_with fail
      go_round
      case rel => exact ⟨2, by omega, by omega, rfl⟩
      case measure => simp [intOf]
    · go_wp2_with fail
      go_quiet ((go_at_call 200; exact quiet_left (blend_ok _ _ _ _ _ _ HL.out)))
      go_wp2_with fail
      go_ret
      exact ⟨ret_int HE.out.symm, by first | exact below_drewN' (below_alloc _ _) _ | exact below_drewN' ((below_alloc _ _).alloc (by simp) _) _⟩
set_option maxHeartbeats 800000 in
theorem even_3 (h : Int) (w : World) (h0 : 0 ≤ h) (h1 : 600 < h) (h2 : h ≤ 800) : Calls Try.prog 173 #[.int .i64 h] w fun e w' => e = .returned (.int .i64 (evenR h)) ∧ Below w.heap.size w w' := by
  have HE := hid (even_case (h := h) (i := 3) h0 (.inr (.inr (.inl ⟨rfl, by omega, by omega⟩))))
  have LB : LineBd 600 110 800 160 h := by unfold LineBd; omega
  have HL := hid LB
  have ew : IntKind.i64.wrap 2 = 2 := IntWalk.i64_in _ (by omega)
  clear LB
  go_enter Try.func173, Try.ntmps173
  go_wp2_with fail
  go_loop [4] (fun i => ∃ k : Nat, 1 ≤ k ∧ k ≤ 3 ∧ i = .int .i64 k) (fun i => 3 - (intOf i).toNat)
  case atStart => exact ⟨1, by omega, by omega, rfl⟩
  case round =>
    obtain ⟨k, hk1, hk2, rfl⟩ := hrel
    obtain rfl | rfl | rfl : k = 1 ∨ k = 2 ∨ k = 3 := by omega
    · go_wp2_with fail
      go_round
      case rel => exact ⟨2, by omega, by omega, rfl⟩
      case measure => simp [intOf]
    · go_wp2_with fail
      go_round
      case rel => exact ⟨3, by omega, by omega, rfl⟩
      case measure => simp [intOf]
    · go_wp2_with fail
      go_quiet ((go_at_call 200; exact quiet_left (blend_ok _ _ _ _ _ _ HL.out)))
      go_wp2_with fail
      go_ret
      exact ⟨ret_int HE.out.symm, by first | exact below_drewN' (below_alloc _ _) _ | exact below_drewN' ((below_alloc _ _).alloc (by simp) _) _⟩
set_option maxHeartbeats 800000 in
theorem even_4 (h : Int) (w : World) (h0 : 0 ≤ h) (h1 : 800 < h) (h2 : h ≤ 1000) : Calls Try.prog 173 #[.int .i64 h] w fun e w' => e = .returned (.int .i64 (evenR h)) ∧ Below w.heap.size w w' := by
  have HE := hid (even_case (h := h) (i := 4) h0 (.inr (.inr (.inr ⟨rfl, by omega⟩))))
  have LB : LineBd 800 160 1000 280 h := by unfold LineBd; omega
  have HL := hid LB
  have ew : IntKind.i64.wrap 3 = 3 := IntWalk.i64_in _ (by omega)
  clear LB
  go_enter Try.func173, Try.ntmps173
  go_wp2_with fail
  go_loop [4] (fun i => ∃ k : Nat, 1 ≤ k ∧ k ≤ 4 ∧ i = .int .i64 k) (fun i => 4 - (intOf i).toNat)
  case atStart => exact ⟨1, by omega, by omega, rfl⟩
  case round =>
    obtain ⟨k, hk1, hk2, rfl⟩ := hrel
    obtain rfl | rfl | rfl | rfl : k = 1 ∨ k = 2 ∨ k = 3 ∨ k = 4 := by omega
    · go_wp2_with fail
      go_round
      case rel => exact ⟨2, by omega, by omega, rfl⟩
      case measure => simp [intOf]
    · go_wp2_with fail
      go_round
      case rel => exact ⟨3, by omega, by omega, rfl⟩
      case measure => simp [intOf]
    · go_wp2_with fail
      go_round
      case rel => exact ⟨4, by omega, by omega, rfl⟩
      case measure => simp [intOf]
    · go_wp2_with fail
      go_quiet ((go_at_call 200; exact quiet_left (blend_ok _ _ _ _ _ _ HL.out)))
      go_wp2_with fail
      go_ret
      exact ⟨ret_int HE.out.symm, by first | exact below_drewN' (below_alloc _ _) _ | exact below_drewN' ((below_alloc _ _).alloc (by simp) _) _⟩
theorem even_ok (h : Int) (w : World) (h0 : 0 ≤ h) (h1 : h ≤ 1000) : Calls Try.prog 173 #[.int .i64 h] w fun e w' => e = .returned (.int .i64 (evenR h)) ∧ Below w.heap.size w w' := by
  by_cases a : h ≤ 300
  · exact even_1 h w h0 a
  by_cases b : h ≤ 600
  · exact even_2 h w h0 (by omega) b
  by_cases c : h ≤ 800
  · exact even_3 h w h0 (by omega) c
  · exact even_4 h w h0 (by omega) h1

set_option maxHeartbeats 800000 in
theorem l04Even_1 (h : Int) (w : World) (h0 : 0 ≤ h) (h2 : h ≤ 300) : Calls Try.prog 107 #[.int .i64 h] w fun e w' => e = .returned (.int .i64 (evenR h)) ∧ Below w.heap.size w w' := by
  have HE := hid (even_case (h := h) (i := 1) h0 (.inl ⟨rfl, by omega⟩))
  have LB : LineBd 0 0 300 60 h := by unfold LineBd; omega
  have HL := hid LB
  have ew : IntKind.i64.wrap 0 = 0 := IntWalk.i64_in _ (by omega)
  clear LB
  go_enter Try.func107, Try.ntmps107
  go_wp2_with fail
  go_loop [5] (fun i => ∃ k : Nat, 1 ≤ k ∧ k ≤ 1 ∧ i = .int .i64 k) (fun i => 1 - (intOf i).toNat)
  case atStart => exact ⟨1, by omega, by omega, rfl⟩
  case round =>
    obtain ⟨k, hk1, hk2, rfl⟩ := hrel
    obtain rfl : k = 1 := by omega
    go_wp2_with fail
    go_quiet ((go_at_call 171; exact quiet_left (l01Line_ok _ _ _ _ _ _ HL.out)))
    go_wp2_with fail
    go_ret
    exact ⟨ret_int HE.out.symm, by first | exact below_drewN' (below_alloc _ _) _ | exact below_drewN' ((below_alloc _ _).alloc (by simp) _) _⟩
set_option maxHeartbeats 800000 in
theorem l04Even_2 (h : Int) (w : World) (h0 : 0 ≤ h) (h1 : 300 < h) (h2 : h ≤ 600) : Calls Try.prog 107 #[.int .i64 h] w fun e w' => e = .returned (.int .i64 (evenR h)) ∧ Below w.heap.size w w' := by
  have HE := hid (even_case (h := h) (i := 2) h0 (.inr (.inl ⟨rfl, by omega, by omega⟩)))
  have LB : LineBd 300 60 600 110 h := by unfold LineBd; omega
  have HL := hid LB
  have ew : IntKind.i64.wrap 1 = 1 := IntWalk.i64_in _ (by omega)
  clear LB
  go_enter Try.func107, Try.ntmps107
  go_wp2_with fail
  go_loop [5] (fun i => ∃ k : Nat, 1 ≤ k ∧ k ≤ 2 ∧ i = .int .i64 k) (fun i => 2 - (intOf i).toNat)
  case atStart => exact ⟨1, by omega, by omega, rfl⟩
  case round =>
    obtain ⟨k, hk1, hk2, rfl⟩ := hrel
    obtain rfl | rfl : k = 1 ∨ k = 2 := by omega
    · go_wp2_with fail
      go_round
      case rel => exact ⟨2, by omega, by omega, rfl⟩
      case measure => simp [intOf]
    · go_wp2_with fail
      go_quiet ((go_at_call 171; exact quiet_left (l01Line_ok _ _ _ _ _ _ HL.out)))
      go_wp2_with fail
      go_ret
      exact ⟨ret_int HE.out.symm, by first | exact below_drewN' (below_alloc _ _) _ | exact below_drewN' ((below_alloc _ _).alloc (by simp) _) _⟩
set_option maxHeartbeats 800000 in
theorem l04Even_3 (h : Int) (w : World) (h0 : 0 ≤ h) (h1 : 600 < h) (h2 : h ≤ 800) : Calls Try.prog 107 #[.int .i64 h] w fun e w' => e = .returned (.int .i64 (evenR h)) ∧ Below w.heap.size w w' := by
  have HE := hid (even_case (h := h) (i := 3) h0 (.inr (.inr (.inl ⟨rfl, by omega, by omega⟩))))
  have LB : LineBd 600 110 800 160 h := by unfold LineBd; omega
  have HL := hid LB
  have ew : IntKind.i64.wrap 2 = 2 := IntWalk.i64_in _ (by omega)
  clear LB
  go_enter Try.func107, Try.ntmps107
  go_wp2_with fail
  go_loop [5] (fun i => ∃ k : Nat, 1 ≤ k ∧ k ≤ 3 ∧ i = .int .i64 k) (fun i => 3 - (intOf i).toNat)
  case atStart => exact ⟨1, by omega, by omega, rfl⟩
  case round =>
    obtain ⟨k, hk1, hk2, rfl⟩ := hrel
    obtain rfl | rfl | rfl : k = 1 ∨ k = 2 ∨ k = 3 := by omega
    · go_wp2_with fail
      go_round
      case rel => exact ⟨2, by omega, by omega, rfl⟩
      case measure => simp [intOf]
    · go_wp2_with fail
      go_round
      case rel => exact ⟨3, by omega, by omega, rfl⟩
      case measure => simp [intOf]
    · go_wp2_with fail
      go_quiet ((go_at_call 171; exact quiet_left (l01Line_ok _ _ _ _ _ _ HL.out)))
      go_wp2_with fail
      go_ret
      exact ⟨ret_int HE.out.symm, by first | exact below_drewN' (below_alloc _ _) _ | exact below_drewN' ((below_alloc _ _).alloc (by simp) _) _⟩
set_option maxHeartbeats 800000 in
theorem l04Even_4 (h : Int) (w : World) (h0 : 0 ≤ h) (h1 : 800 < h) (h2 : h ≤ 1000) : Calls Try.prog 107 #[.int .i64 h] w fun e w' => e = .returned (.int .i64 (evenR h)) ∧ Below w.heap.size w w' := by
  have HE := hid (even_case (h := h) (i := 4) h0 (.inr (.inr (.inr ⟨rfl, by omega⟩))))
  have LB : LineBd 800 160 1000 280 h := by unfold LineBd; omega
  have HL := hid LB
  have ew : IntKind.i64.wrap 3 = 3 := IntWalk.i64_in _ (by omega)
  clear LB
  go_enter Try.func107, Try.ntmps107
  go_wp2_with fail
  go_loop [5] (fun i => ∃ k : Nat, 1 ≤ k ∧ k ≤ 4 ∧ i = .int .i64 k) (fun i => 4 - (intOf i).toNat)
  case atStart => exact ⟨1, by omega, by omega, rfl⟩
  case round =>
    obtain ⟨k, hk1, hk2, rfl⟩ := hrel
    obtain rfl | rfl | rfl | rfl : k = 1 ∨ k = 2 ∨ k = 3 ∨ k = 4 := by omega
    · go_wp2_with fail
      go_round
      case rel => exact ⟨2, by omega, by omega, rfl⟩
      case measure => simp [intOf]
    · go_wp2_with fail
      go_round
      case rel => exact ⟨3, by omega, by omega, rfl⟩
      case measure => simp [intOf]
    · go_wp2_with fail
      go_round
      case rel => exact ⟨4, by omega, by omega, rfl⟩
      case measure => simp [intOf]
    · go_wp2_with fail
      go_quiet ((go_at_call 171; exact quiet_left (l01Line_ok _ _ _ _ _ _ HL.out)))
      go_wp2_with fail
      go_ret
      exact ⟨ret_int HE.out.symm, by first | exact below_drewN' (below_alloc _ _) _ | exact below_drewN' ((below_alloc _ _).alloc (by simp) _) _⟩
theorem l04Even_ok (h : Int) (w : World) (h0 : 0 ≤ h) (h1 : h ≤ 1000) : Calls Try.prog 107 #[.int .i64 h] w fun e w' => e = .returned (.int .i64 (evenR h)) ∧ Below w.heap.size w w' := by
  by_cases a : h ≤ 300
  · exact l04Even_1 h w h0 a
  by_cases b : h ≤ 600
  · exact l04Even_2 h w h0 (by omega) b
  by_cases c : h ≤ 800
  · exact l04Even_3 h w h0 (by omega) c
  · exact l04Even_4 h w h0 (by omega) h1

set_option maxHeartbeats 800000 in
set_option maxRecDepth 100000 in
theorem after_ok (x : DStack) (h : Int) (D : Nat) (w : World) (hm : 0 ≤ x.fMoisture ∧ x.fMoisture ≤ 1000) (ht : 10 ≤ x.fThick ∧ x.fThick ≤ 1000) (hh : 0 ≤ h ∧ h ≤ 1000) (hD : D ≤ 10000) :
    Calls Try.prog 113 #[.agg #[.string x.fId, .int .i64 x.fMoisture, .int .i64 x.fThick, .int .i64 x.fSince], .int .i64 h, .int .i64 D] w fun e w' => e = .returned (.int .i64 (afterR (evenR h) x.fThick D x.fMoisture)) ∧ Below w.heap.size w w' := by
  have HEV := hid (evenR_bd hh.1 hh.2)
  have HC := hid (HasC.new w [.string x.fId, .int .i64 x.fMoisture, .int .i64 x.fThick, .int .i64 x.fSince] 132)
  have k1 := HC.out.2 1 _ rfl
  have k2 := HC.out.2 2 _ rfl
  have nl : w.heap.size < (w.alloc (.cells #[.string x.fId, .int .i64 x.fMoisture, .int .i64 x.fThick, .int .i64 x.fSince] 132)).heap.size := HC.out.1
  have HM := hid hm
  have HT := hid ht
  have HH := hid hh
  clear hm ht hh
  go_enter Try.func113, Try.ntmps113
  go_wp2_with fail
  go_region_held3 (fun w' => (True ∧ Below (w.alloc (.cells #[.string x.fId, .int .i64 x.fMoisture, .int .i64 x.fThick, .int .i64 x.fSince] 132)).heap.size (w.alloc (.cells #[.string x.fId, .int .i64 x.fMoisture, .int .i64 x.fThick, .int .i64 x.fSince] 132)) w') ∧ w'.cell? ⟨w.heap.size, 1, none⟩ = some (.int .i64 x.fMoisture) ∧ w'.cell? ⟨w.heap.size, 2, none⟩ = some (.int .i64 x.fThick))
    (first | exact ⟨⟨trivial, (Below.refl _ _).drew⟩, k1, k2⟩ | exact keepM2 nl nl ‹_ ∧ _› ‹Below _ _ _›)
    ((go_at_call 173; refine (even_ok _ _ HH.out.1 HH.out.2).mono ?_; rintro e w6 ⟨rfl, hb6⟩))
  obtain ⟨⟨_, hB⟩, hk1, hk2⟩ := ‹(_ ∧ Below _ _ _) ∧ _›
  have BB := hid (below_chain hB (Below.refl _ _))
  clear hB k1 k2 hk1 nl
  go_wp2_with fail
  go_loop [8, 15] (fun z k => ∃ (j : Nat) (z' : Int), j ≤ D ∧ k = .int .i64 j ∧ z = .int .i64 z' ∧ 0 ≤ z' ∧ z' ≤ 1000 ∧ afterR (evenR h) x.fThick (D - j) z' = afterR (evenR h) x.fThick D x.fMoisture) (fun _ k => D - (intOf k).toNat)
  case atStart => exact ⟨0, _, Nat.zero_le _, rfl, rfl, HM.out.1, HM.out.2, rfl⟩
  case round =>
    obtain ⟨j, z, hj, rfl, rfl, z0, z1, hz⟩ := hrel
    have HZ := hid hz
    clear hz
    have CB : ChangeBd z (evenR h) x.fThick := ⟨⟨z0, z1⟩, HEV.out, HT.out⟩
    have HCB := hid CB
    clear CB
    obtain ⟨y0, y1, y2, y3⟩ := changeR_bd z0 z1 HEV.out.1 HEV.out.2 HT.out.1
    by_cases hjd : j < D
    · by_cases hc : changeR z (evenR h) x.fThick = 0
      · have HF := hid (show afterR (evenR h) x.fThick D x.fMoisture = z by rw [← HZ.out, afterR_stop hc])
        have d1 : (changeR z (evenR h) x.fThick == 0) = true := by rw [beq_iff_eq]; exact hc
        clear hc
        go_wp2_with (go_at_call 174; refine (change_ok _ _ _ _ HCB.out).mono ?_; rintro e w' ⟨rfl, rfl⟩)
        go_ret
        exact ⟨ret_int HF.out.symm, BB.out⟩
      · have HF := hid (show afterR (evenR h) x.fThick (D - (j + 1)) (z + changeR z (evenR h) x.fThick) = afterR (evenR h) x.fThick D x.fMoisture by rw [← HZ.out, afterR_step hjd hc])
        have d1 : (changeR z (evenR h) x.fThick == 0) = false := by rw [beq_eq_false_iff_ne]; exact hc
        clear hc
        go_wp2_with (go_at_call 174; refine (change_ok _ _ _ _ HCB.out).mono ?_; rintro e w' ⟨rfl, rfl⟩)
        go_round
        case rel => exact ⟨j + 1, _, by omega, by go_num, rfl, y0, y1, HF.out⟩
        case measure => simp [intOf]; omega
    · have hj2 : j = D := by omega
      subst hj2
      have HF := hid (show afterR (evenR h) x.fThick j x.fMoisture = z by rw [← HZ.out, Nat.sub_self]; rfl)
      go_wp2_with fail
      go_ret
      exact ⟨ret_int HF.out.symm, BB.out⟩

end Go.Proofs.Ytnekigpeknenjaa
