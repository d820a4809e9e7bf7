/- VisitText and its reference. -/
import Derived.Test.YtbnnmmiflcpipaaDoorDec
import Derived.Test.YtbnnmmiflcpipaaDoorList
import Derived.Test.YtbnnmmiflcpipaaDoorKeep
import Derived.Test.YtbnnmmiflcpipaaDoorRange
import Derived.Test.YtbnnmmiflcpipaaDoorKind
namespace Go.Proofs.YtbnnmmiflcpipaaDoor
open Go.RowKit
set_option linter.unusedVariables false

def visitB (xDay : Int) (xWho : ByteArray) (xKind : Int) (xAmount : Int) : Bool := inB xDay 0 100000 && (nameB xWho && (inB xKind 1 4 && (inB xAmount 0 10000000)))

set_option maxHeartbeats 800000 in
set_option maxRecDepth 100000 in
theorem visitValid_ok (xDay : Int) (xWho : ByteArray) (xKind : Int) (xAmount : Int) (w : World) (hsWho : xWho.size ≤ maxLen) :
    Calls Tryd.prog 39 #[.agg #[.int .i64 xDay, .string xWho, .int .i64 xKind, .int .i64 xAmount]] w fun e w' => e = .returned (.bool (visitB xDay xWho xKind xAmount)) ∧ Below w.heap.size w w' := by
  go_enter Tryd.func39, Tryd.ntmps39
  go_wp2_with (first | (go_at_call 78; refine (isRentDay_ok _ _).mono ?_; rintro e w' ⟨rfl, rfl⟩) | (go_at_call 79; refine (IsName_ok _ _ (by assumption)).mono ?_; rintro e w' ⟨rfl, rfl⟩) | (go_at_call 80; refine (within_ok _ _ _ _).mono ?_; rintro e w' ⟨rfl, rfl⟩) | (go_at_call 81; refine (isMoney_ok _ _).mono ?_; rintro e w' ⟨rfl, rfl⟩))
  all_goals (go_ret; exact ⟨ret_bool (by simp [visitB, *]), below_alloc _ _⟩)

set_option maxRecDepth 100000 in
theorem visitOne_ok (xDay : Int) (xWho : ByteArray) (xKind : Int) (xAmount : Int) (b o : Nat) (w : World) (hsWho : xWho.size ≤ maxLen) (k0 : w.cell? ⟨b, o, none⟩ = some (.int .i64 xDay)) (k1 : w.cell? ⟨b, o + 1, none⟩ = some (.string xWho)) (k2 : w.cell? ⟨b, o + 2, none⟩ = some (.int .i64 xKind)) (k3 : w.cell? ⟨b, o + 3, none⟩ = some (.int .i64 xAmount)) :
    Calls Tryd.prog 37 #[.pointer (some ⟨b, o, none⟩)] w fun e w' => e = .returned (.bool (visitB xDay xWho xKind xAmount)) ∧ Below w.heap.size w w' := by
  go_enter Tryd.func37, Tryd.ntmps37
  go_wp2_with (first | (go_at_call 74; refine (l21Day_ok _ _).mono ?_; rintro e w' ⟨rfl, rfl⟩) | (go_at_call 75; refine (l01Name_ok _ _ (by assumption)).mono ?_; rintro e w' ⟨rfl, rfl⟩) | (go_at_call 76; refine (l22Kind_ok _ _).mono ?_; rintro e w' ⟨rfl, rfl⟩) | (go_at_call 77; refine (l21Money_ok _ _).mono ?_; rintro e w' ⟨rfl, rfl⟩))
  all_goals (go_ret; exact ⟨ret_bool (by simp [visitB, *]), Below.refl _ _⟩)

theorem visitB_bd {xWho : ByteArray} {xDay xKind xAmount : Int} (h : visitB xDay xWho xKind xAmount = true) : xWho.size ≤ 10 ∧ 0 ≤ xDay ∧ xDay ≤ 10000000 ∧ 0 ≤ xKind ∧ xKind ≤ 10000000 ∧ 0 ≤ xAmount ∧ xAmount ≤ 10000000 := by
  simp only [visitB, Bool.and_eq_true, inB_iff] at h
  obtain ⟨a0, a1, a2, a3⟩ := h
  refine ⟨name_size a1, by omega, by omega, by omega, by omega, by omega, by omega⟩

/-- the text -/
def visitT (xDay : Int) (xWho : ByteArray) (xKind : Int) (xAmount : Int) : ByteArray := dec xDay ++ ⟨#[32]⟩ ++ xWho ++ ⟨#[32]⟩ ++ kindT xKind ++ ⟨#[32]⟩ ++ dec xAmount

set_option maxHeartbeats 800000 in
set_option maxRecDepth 100000 in
theorem VisitText_ok (xDay : Int) (xWho : ByteArray) (xKind : Int) (xAmount : Int) (w : World) (hsWho : xWho.size ≤ maxLen) (ht : Tab w) :
    Calls Tryd.prog 13 #[.agg #[.int .i64 xDay, .string xWho, .int .i64 xKind, .int .i64 xAmount]] w fun e w' => e = .returned (.string (orNo (visitB xDay xWho xKind xAmount) (visitT xDay xWho xKind xAmount))) ∧ Below w.heap.size w w' := by
  cases hv : visitB xDay xWho xKind xAmount
  · go_enter Tryd.func13, Tryd.ntmps13
    go_wp2_with (go_at_call 39; refine (visitValid_ok _ _ _ _ _ hsWho).mono ?_; rintro e w1 ⟨rfl, hb⟩)
    go_ret
    exact ⟨rfl, below_chain hb (Below.refl _ _)⟩
  · obtain ⟨zWho, lDay, uDay, lKind, uKind, lAmount, uAmount⟩ := visitB_bd hv
    have HC0 := hid (HasC.new w [.int .i64 xDay, .string xWho, .int .i64 xKind, .int .i64 xAmount] 26)
    have HT := hid (ht.alloc (.cells [.int .i64 xDay, .string xWho, .int .i64 xKind, .int .i64 xAmount].toArray 26))
    clear ht
    go_enter Tryd.func13, Tryd.ntmps13
    go_wp2_with (go_at_call 39; refine (visitValid_ok _ _ _ _ _ hsWho).mono ?_; rintro e w1 ⟨rfl, hb⟩)
    have HC := hid (HC0.out.below hb)
    have k0 : w1.cell? ⟨w.heap.size, 0, none⟩ = some (.int .i64 xDay) := HC.out.2 0 _ rfl
    have k1 : w1.cell? ⟨w.heap.size, 1, none⟩ = some (.string xWho) := HC.out.2 1 _ rfl
    have k2 : w1.cell? ⟨w.heap.size, 2, none⟩ = some (.int .i64 xKind) := HC.out.2 2 _ rfl
    have k3 : w1.cell? ⟨w.heap.size, 3, none⟩ = some (.int .i64 xAmount) := HC.out.2 3 _ rfl
    have hlt : w.heap.size < w1.heap.size := HC.out.1
    have ht1 : Tab w1 := HT.out.below hb
    clear HC HC0 HT hv
    have sdDay : (dec xDay).size ≤ 20 := dec_size (by omega) (by omega)
    have sdAmount : (dec xAmount).size ≤ 20 := dec_size (by omega) (by omega)
    have skKind : (kindT xKind).size ≤ 6 := kindT_size _
    have g1 : ¬ 9223372036854775807 < (dec xDay).size + 1 := by omega
    have g2 : ¬ 9223372036854775807 < (dec xDay).size + 1 + xWho.size := by omega
    have g3 : ¬ 9223372036854775807 < (dec xDay).size + 1 + xWho.size + 1 := by omega
    have g4 : ¬ 9223372036854775807 < (dec xDay).size + 1 + xWho.size + 1 + (kindT xKind).size := by omega
    have g5 : ¬ 9223372036854775807 < (dec xDay).size + 1 + xWho.size + 1 + (kindT xKind).size + 1 := by omega
    have g6 : ¬ 9223372036854775807 < (dec xDay).size + 1 + xWho.size + 1 + (kindT xKind).size + 1 + (dec xAmount).size := by omega
    go_region_held3 (fun w' => (Tab w' ∧ Below w1.heap.size w1 w') ∧ w'.cell? ⟨w.heap.size, 0, none⟩ = some (.int .i64 xDay) ∧ w'.cell? ⟨w.heap.size, 1, none⟩ = some (.string xWho) ∧ w'.cell? ⟨w.heap.size, 2, none⟩ = some (.int .i64 xKind) ∧ w'.cell? ⟨w.heap.size, 3, none⟩ = some (.int .i64 xAmount))
      (first | exact ⟨⟨ht1.drew, (Below.refl _ _).drew⟩, k0, k1, k2, k3⟩ | exact keepT4 hlt ‹_ ∧ _› ‹Below _ _ _›)
      (first | (go_at_call 40; refine (Decimal_ok _ _ (by omega) (by omega) (And.left (And.left ‹(Tab _ ∧ _) ∧ _›))).mono ?_; rintro e w2 ⟨rfl, hb2⟩) | (go_at_call 41; refine (VisitKind_ok _ _ (by omega) (by omega)).mono ?_; rintro e w2 ⟨rfl, hb2⟩))
    go_wp2_with fail
    go_ret
    obtain ⟨⟨_, hB⟩, _⟩ := ‹(Tab _ ∧ _) ∧ _›
    exact ⟨by simp [visitT, orNo], below_chain hb hB⟩

set_option maxHeartbeats 1600000 in
set_option maxRecDepth 100000 in
theorem visitSText_ok (xDay : Int) (xWho : ByteArray) (xKind : Int) (xAmount : Int) (b o : Nat) (w : World) (hv : visitB xDay xWho xKind xAmount = true) (hlt : b < w.heap.size) (k0 : w.cell? ⟨b, o, none⟩ = some (.int .i64 xDay)) (k1 : w.cell? ⟨b, o + 1, none⟩ = some (.string xWho)) (k2 : w.cell? ⟨b, o + 2, none⟩ = some (.int .i64 xKind)) (k3 : w.cell? ⟨b, o + 3, none⟩ = some (.int .i64 xAmount)) :
    Calls Tryd.prog 38 #[.pointer (some ⟨b, o, none⟩)] w fun e w' => e = .returned (.string (visitT xDay xWho xKind xAmount)) ∧ Below w.heap.size w w' := by
  · obtain ⟨zWho, lDay, uDay, lKind, uKind, lAmount, uAmount⟩ := visitB_bd hv
    have hkd : 1 ≤ xKind ∧ xKind ≤ 4 := by
      simp only [visitB, Bool.and_eq_true, inB_iff] at hv
      omega
    obtain ⟨kk, rfl⟩ := Int.eq_ofNat_of_zero_le lKind
    have q0 : (0 : Int) ≤ (kk : Int) := by omega
    have q1 : (kk : Int) < 5 := by omega
    have sdDay : (dec xDay).size ≤ 20 := dec_size (by omega) (by omega)
    have sdAmount : (dec xAmount).size ≤ 20 := dec_size (by omega) (by omega)
    have skKind : (kindT (kk : Int)).size ≤ 6 := kindT_size _
    have g1 : ¬ 9223372036854775807 < (dec xDay).size + 1 := by omega
    have g2 : ¬ 9223372036854775807 < (dec xDay).size + 1 + xWho.size := by omega
    have g3 : ¬ 9223372036854775807 < (dec xDay).size + 1 + xWho.size + 1 := by omega
    have g4 : ¬ 9223372036854775807 < (dec xDay).size + 1 + xWho.size + 1 + (kindT (kk : Int)).size := by omega
    have g5 : ¬ 9223372036854775807 < (dec xDay).size + 1 + xWho.size + 1 + (kindT (kk : Int)).size + 1 := by omega
    have g6 : ¬ 9223372036854775807 < (dec xDay).size + 1 + xWho.size + 1 + (kindT (kk : Int)).size + 1 + (dec xAmount).size := by omega
    clear hv
    go_enter Tryd.func38, Tryd.ntmps38
    go_wp2_with fail
    refine wp_region_held_drew (S := fun w' => (True ∧ Below w.heap.size w w') ∧ w'.cell? ⟨b, o, none⟩ = some (.int .i64 xDay) ∧ w'.cell? ⟨b, o + 1, none⟩ = some (.string xWho) ∧ w'.cell? ⟨b, o + 2, none⟩ = some (.int .i64 (kk : Int)) ∧ w'.cell? ⟨b, o + 3, none⟩ = some (.int .i64 xAmount)) (by kernel_rfl) ⟨⟨trivial, (Below.refl _ _).drew⟩, k0, k1, k2, k3⟩ (fun hHeld => ?_)
    refine wpAnyH_take (i := 0) (oi := ⟨some 3, _, _, _, _, _⟩) (v := ?_) rfl (by kernel_rfl) (by kernel_rfl) (by kernel_rfl) (fun _ _ _ h => h) (Or.inl ⟨by rfl, ?_⟩) (by assumption) ?_
    rotate_left
    · (intro w hSw; (try dsimp only at hSw); go_simp; try with_reducible rfl)
    try simp only [Act.put, List.setIfInBounds_toArray, List.set_cons_zero, List.set_cons_succ]
    refine wpAnyH_take (i := 1) (oi := ⟨some 4, _, _, _, _, _⟩) (v := ?_) rfl (by kernel_rfl) (by kernel_rfl) (by kernel_rfl) (fun _ _ _ h => h) (Or.inl ⟨by rfl, ?_⟩) (by assumption) ?_
    rotate_left
    · (intro w hSw; (try dsimp only at hSw); go_simp; try with_reducible rfl)
    try simp only [Act.put, List.setIfInBounds_toArray, List.set_cons_zero, List.set_cons_succ]
    refine wpAnyH_take (i := 2) (oi := ⟨some 5, _, _, _, _, _⟩) (v := ?_) rfl (by kernel_rfl) (by kernel_rfl) (by kernel_rfl) (fun _ _ _ h => h) (Or.inl ⟨by rfl, ?_⟩) (by assumption) ?_
    rotate_left
    · (intro w hSw; (try dsimp only at hSw); go_simp; try with_reducible rfl)
    try simp only [Act.put, List.setIfInBounds_toArray, List.set_cons_zero, List.set_cons_succ]
    refine wpAnyH_take (i := 3) (oi := ⟨some 6, _, _, _, _, _⟩) (v := ?_) rfl (by kernel_rfl) (by kernel_rfl) (by kernel_rfl) (fun _ _ _ h => h) (Or.inl ⟨by rfl, ?_⟩) (by assumption) ?_
    rotate_left
    · (intro w hSw; (try dsimp only at hSw); go_simp; try with_reducible rfl)
    try simp only [Act.put, List.setIfInBounds_toArray, List.set_cons_zero, List.set_cons_succ]
    refine wpAnyH_take (i := 6) (oi := ⟨some 9, _, _, _, _, _⟩) (v := ?_) rfl (by kernel_rfl) (by kernel_rfl) (by kernel_rfl) (fun _ _ _ h => h) (Or.inl ⟨by rfl, ?_⟩) (by assumption) ?_
    rotate_left
    · (intro w hSw; (try dsimp only at hSw); go_simp; try with_reducible rfl)
    try simp only [Act.put, List.setIfInBounds_toArray, List.set_cons_zero, List.set_cons_succ]
    refine wpAnyH_take (i := 7) (oi := ⟨some 10, _, _, _, _, _⟩) (v := ?_) rfl (by kernel_rfl) (by kernel_rfl) (by kernel_rfl) (fun _ _ _ h => h) (Or.inl ⟨by rfl, ?_⟩) (by assumption) ?_
    rotate_left
    · (intro w hSw; (try dsimp only at hSw); go_simp; try with_reducible rfl)
    try simp only [Act.put, List.setIfInBounds_toArray, List.set_cons_zero, List.set_cons_succ]
    refine wpAnyH_take (i := 8) (oi := ⟨some 11, _, _, _, _, _⟩) (v := ?_) rfl (by kernel_rfl) (by kernel_rfl) (by kernel_rfl) (fun _ _ _ h => h) (Or.inl ⟨by rfl, ?_⟩) (by assumption) ?_
    rotate_left
    · (intro w hSw; (try dsimp only at hSw); go_simp; try with_reducible rfl)
    try simp only [Act.put, List.setIfInBounds_toArray, List.set_cons_zero, List.set_cons_succ]
    refine wpAnyH_take (i := 9) (oi := ⟨some 12, _, _, _, _, _⟩) (v := ?_) rfl (by kernel_rfl) (by kernel_rfl) (by kernel_rfl) (fun _ _ _ h => h) (Or.inl ⟨by rfl, ?_⟩) (by assumption) ?_
    rotate_left
    · (intro w hSw; (try dsimp only at hSw); go_simp; try with_reducible rfl)
    try simp only [Act.put, List.setIfInBounds_toArray, List.set_cons_zero, List.set_cons_succ]
    refine wpAnyH_take (i := 13) (oi := ⟨some 16, _, _, _, _, _⟩) (v := ?_) rfl (by kernel_rfl) (by kernel_rfl) (by kernel_rfl) (fun _ _ _ h => h) (Or.inl ⟨by rfl, ?_⟩) (by assumption) ?_
    rotate_left
    · (intro w hSw; (try dsimp only at hSw); go_simp; try with_reducible rfl)
    try simp only [Act.put, List.setIfInBounds_toArray, List.set_cons_zero, List.set_cons_succ]
    refine wpAnyH_take (i := 14) (oi := ⟨some 17, _, _, _, _, _⟩) (v := ?_) rfl (by kernel_rfl) (by kernel_rfl) (by kernel_rfl) (fun _ _ _ h => h) (Or.inl ⟨by rfl, ?_⟩) (by assumption) ?_
    rotate_left
    · (intro w hSw; (try dsimp only at hSw); go_simp; try with_reducible rfl)
    try simp only [Act.put, List.setIfInBounds_toArray, List.set_cons_zero, List.set_cons_succ]
    refine wpAnyH_take (i := 15) (oi := ⟨some 18, _, _, _, _, _⟩) (v := ?_) rfl (by kernel_rfl) (by kernel_rfl) (by kernel_rfl) (fun _ _ _ h => h) (Or.inl ⟨by rfl, ?_⟩) (by assumption) ?_
    rotate_left
    · (intro w hSw; (try dsimp only at hSw); go_simp; try with_reducible rfl)
    try simp only [Act.put, List.setIfInBounds_toArray, List.set_cons_zero, List.set_cons_succ]
    refine wpAnyH_take (i := 16) (oi := ⟨some 19, _, _, _, _, _⟩) (v := ?_) rfl (by kernel_rfl) (by kernel_rfl) (by kernel_rfl) (fun _ _ _ h => h) (Or.inl ⟨by rfl, ?_⟩) (by assumption) ?_
    rotate_left
    · (intro w hSw; (try dsimp only at hSw); go_simp; try with_reducible rfl)
    try simp only [Act.put, List.setIfInBounds_toArray, List.set_cons_zero, List.set_cons_succ]
    refine wpAnyH_take (i := 21) (oi := ⟨some 24, _, _, _, _, _⟩) (v := ?_) rfl (by kernel_rfl) (by kernel_rfl) (by kernel_rfl) (fun _ _ _ h => h) (Or.inl ⟨by rfl, ?_⟩) (by assumption) ?_
    rotate_left
    · (intro w hSw; (try dsimp only at hSw); go_simp; try with_reducible rfl)
    try simp only [Act.put, List.setIfInBounds_toArray, List.set_cons_zero, List.set_cons_succ]
    refine wpAnyH_take (i := 22) (oi := ⟨some 25, _, _, _, _, _⟩) (v := ?_) rfl (by kernel_rfl) (by kernel_rfl) (by kernel_rfl) (fun _ _ _ h => h) (Or.inl ⟨by rfl, ?_⟩) (by assumption) ?_
    rotate_left
    · (intro w hSw; (try dsimp only at hSw); go_simp; try with_reducible rfl)
    try simp only [Act.put, List.setIfInBounds_toArray, List.set_cons_zero, List.set_cons_succ]
    refine wpAnyH_take (i := 23) (oi := ⟨some 26, _, _, _, _, _⟩) (v := ?_) rfl (by kernel_rfl) (by kernel_rfl) (by kernel_rfl) (fun _ _ _ h => h) (Or.inl ⟨by rfl, ?_⟩) (by assumption) ?_
    rotate_left
    · (intro w hSw; (try dsimp only at hSw); go_simp; try with_reducible rfl)
    try simp only [Act.put, List.setIfInBounds_toArray, List.set_cons_zero, List.set_cons_succ]
    refine wpAnyH_take (i := 24) (oi := ⟨some 27, _, _, _, _, _⟩) (v := ?_) rfl (by kernel_rfl) (by kernel_rfl) (by kernel_rfl) (fun _ _ _ h => h) (Or.inl ⟨by rfl, ?_⟩) (by assumption) ?_
    rotate_left
    · (intro w hSw; (try dsimp only at hSw); go_simp; try with_reducible rfl)
    try simp only [Act.put, List.setIfInBounds_toArray, List.set_cons_zero, List.set_cons_succ]
    refine wpAnyH_ready (rs := [4]) (by kernel_rfl) (by simp) ?_
    refine AllReadyH.cons (o := ⟨some 7, _, _, _, _, _⟩) rfl (fun K hK => ?_) AllReadyH.nil
    go_simp
    go_at_call 63
    refine (l01Dec_ok _ _ (by omega) (by omega)).mono ?_
    rintro e w3 ⟨rfl, hbw3⟩
    (try go_wp2_with fail)
    refine hK.out _ _ (keepN4 hlt ‹_ ∧ _› hbw3) (fun hHeld => ?_)
    clear hK K
    try simp only [Act.put, List.setIfInBounds_toArray, List.set_cons_zero, List.set_cons_succ]
    refine wpAnyH_take (i := 5) (oi := ⟨some 8, _, _, _, _, _⟩) (v := ?_) rfl (by kernel_rfl) (by kernel_rfl) (by kernel_rfl) (fun _ _ _ h => h) (Or.inl ⟨by rfl, ?_⟩) (by assumption) ?_
    rotate_left
    · (intro w hSw; (try dsimp only at hSw); go_simp; try with_reducible rfl)
    try simp only [Act.put, List.setIfInBounds_toArray, List.set_cons_zero, List.set_cons_succ]
    refine wpAnyH_take (i := 10) (oi := ⟨some 13, _, _, _, _, _⟩) (v := ?_) rfl (by kernel_rfl) (by kernel_rfl) (by kernel_rfl) (fun _ _ _ h => h) (Or.inl ⟨by rfl, ?_⟩) (by assumption) ?_
    rotate_left
    · (intro w hSw; (try dsimp only at hSw); go_simp; try with_reducible rfl)
    try simp only [Act.put, List.setIfInBounds_toArray, List.set_cons_zero, List.set_cons_succ]
    refine wpAnyH_take (i := 11) (oi := ⟨some 14, _, _, _, _, _⟩) (v := ?_) rfl (by kernel_rfl) (by kernel_rfl) (by kernel_rfl) (fun _ _ _ h => h) (Or.inl ⟨by rfl, ?_⟩) (by assumption) ?_
    rotate_left
    · (intro w hSw; (try dsimp only at hSw); go_simp; try with_reducible rfl)
    try simp only [Act.put, List.setIfInBounds_toArray, List.set_cons_zero, List.set_cons_succ]
    refine wpAnyH_ready (rs := [12]) (by kernel_rfl) (by simp) ?_
    refine AllReadyH.cons (o := ⟨some 15, _, _, _, _, _⟩) rfl (fun K hK => ?_) AllReadyH.nil
    go_simp
    go_at_call 58
    refine (l22Names_ok _).mono ?_
    rintro e w4 ⟨rfl, hg, hb4, hnm⟩
    (try go_wp2_with fail)
    refine hK.out _ _ (keepN4 hlt ‹_ ∧ _› hb4) (fun hHeld => ?_)
    clear hK K
    try simp only [Act.put, List.setIfInBounds_toArray, List.set_cons_zero, List.set_cons_succ]
    have hn4 := hnm kk (by omega)
    clear hnm
    refine wpAnyH_take (i := 17) (oi := ⟨some 20, _, _, _, _, _⟩) (v := ?_) rfl (by kernel_rfl) (by kernel_rfl) (by kernel_rfl) (fun _ _ _ h => h) (Or.inl ⟨by rfl, ?_⟩) (by assumption) ?_
    rotate_left
    · (intro w hSw; (try dsimp only at hSw); go_simp; try with_reducible rfl)
    try simp only [Act.put, List.setIfInBounds_toArray, List.set_cons_zero, List.set_cons_succ]
    refine wpAnyH_ready (rs := [18, 25]) (by kernel_rfl) (by simp) ?_
    refine AllReadyH.cons (o := ⟨some 21, _, _, _, _, _⟩) rfl (fun K hK => ?_) (AllReadyH.cons (o := ⟨some 28, _, _, _, _, _⟩) rfl (fun K hK => ?_) AllReadyH.nil)
    · go_simp
      refine hK.out _ _ (by assumption) (fun hHeld => ?_)
      clear hK K
      try simp only [Act.put, List.setIfInBounds_toArray, List.set_cons_zero, List.set_cons_succ]
      refine wpAnyH_take (i := 19) (oi := ⟨some 22, _, _, _, _, _⟩) (v := ?_) rfl (by kernel_rfl) (by kernel_rfl) (by kernel_rfl) (fun _ _ _ h => h) (Or.inl ⟨by rfl, ?_⟩) (by assumption) ?_
      rotate_left
      · (intro w hSw; (try dsimp only at hSw); go_simp; try with_reducible rfl)
      try simp only [Act.put, List.setIfInBounds_toArray, List.set_cons_zero, List.set_cons_succ]
      refine wpAnyH_take (i := 20) (oi := ⟨some 23, _, _, _, _, _⟩) (v := ?_) rfl (by kernel_rfl) (by kernel_rfl) (by kernel_rfl) (fun _ _ _ h => h) (Or.inl ⟨by rfl, ?_⟩) (by assumption) ?_
      rotate_left
      · (intro w hSw; (try dsimp only at hSw); go_simp; try with_reducible rfl)
      try simp only [Act.put, List.setIfInBounds_toArray, List.set_cons_zero, List.set_cons_succ]
      refine wpAnyH_ready (rs := [25]) (by kernel_rfl) (by simp) ?_
      refine AllReadyH.cons (o := ⟨some 28, _, _, _, _, _⟩) rfl (fun K hK => ?_) AllReadyH.nil
      go_simp
      go_at_call 63
      refine (l01Dec_ok _ _ (by omega) (by omega)).mono ?_
      rintro e w5 ⟨rfl, hbw5⟩
      (try go_wp2_with fail)
      refine hK.out _ _ (keepN4 hlt ‹_ ∧ _› hbw5) (fun hHeld => ?_)
      clear hK K
      try simp only [Act.put, List.setIfInBounds_toArray, List.set_cons_zero, List.set_cons_succ]
      refine wpAnyH_take (i := 26) (oi := ⟨some 29, _, _, _, _, _⟩) (v := ?_) rfl (by kernel_rfl) (by kernel_rfl) (by kernel_rfl) (fun _ _ _ h => h) (Or.inl ⟨by rfl, ?_⟩) (by assumption) ?_
      rotate_left
      · (intro w hSw; (try dsimp only at hSw); go_simp; try with_reducible rfl)
      try simp only [Act.put, List.setIfInBounds_toArray, List.set_cons_zero, List.set_cons_succ]
      refine wpAnyH_take (i := 27) (oi := ⟨some 2, _, _, _, _, _⟩) (v := ?_) rfl (by kernel_rfl) (by kernel_rfl) (by kernel_rfl) (fun _ _ _ h => h) (Or.inl ⟨by rfl, ?_⟩) (by assumption) ?_
      rotate_left
      · (intro w hSw; (try dsimp only at hSw); go_simp; try with_reducible rfl)
      try simp only [Act.put, List.setIfInBounds_toArray, List.set_cons_zero, List.set_cons_succ]
      refine wpAnyH_done (by kernel_rfl) ?_ _
      go_wp2_with fail
      go_ret
      obtain ⟨⟨_, hB⟩, _⟩ := ‹(_ ∧ Below _ _ _) ∧ _›
      exact ⟨by simp [visitT], hB⟩
    · go_simp
      go_at_call 63
      refine (l01Dec_ok _ _ (by omega) (by omega)).mono ?_
      rintro e w5 ⟨rfl, hbw5⟩
      (try go_wp2_with fail)
      have hn5 : w5.cell? ⟨w3.heap.size, kk, none⟩ = some (.string (kindT kk)) := (hbw5.cell (p := ⟨w3.heap.size, kk, none⟩) hg).trans hn4
      refine hK.out _ _ (keepN4 hlt ‹_ ∧ _› hbw5) (fun hHeld => ?_)
      clear hK K
      try simp only [Act.put, List.setIfInBounds_toArray, List.set_cons_zero, List.set_cons_succ]
      refine wpAnyH_ready (rs := [18]) (by kernel_rfl) (by simp) ?_
      refine AllReadyH.cons (o := ⟨some 21, _, _, _, _, _⟩) rfl (fun K hK => ?_) AllReadyH.nil
      go_simp
      refine hK.out _ _ (by assumption) (fun hHeld => ?_)
      clear hK K
      try simp only [Act.put, List.setIfInBounds_toArray, List.set_cons_zero, List.set_cons_succ]
      refine wpAnyH_take (i := 19) (oi := ⟨some 22, _, _, _, _, _⟩) (v := ?_) rfl (by kernel_rfl) (by kernel_rfl) (by kernel_rfl) (fun _ _ _ h => h) (Or.inl ⟨by rfl, ?_⟩) (by assumption) ?_
      rotate_left
      · (intro w hSw; (try dsimp only at hSw); go_simp; try with_reducible rfl)
      try simp only [Act.put, List.setIfInBounds_toArray, List.set_cons_zero, List.set_cons_succ]
      refine wpAnyH_take (i := 20) (oi := ⟨some 23, _, _, _, _, _⟩) (v := ?_) rfl (by kernel_rfl) (by kernel_rfl) (by kernel_rfl) (fun _ _ _ h => h) (Or.inl ⟨by rfl, ?_⟩) (by assumption) ?_
      rotate_left
      · (intro w hSw; (try dsimp only at hSw); go_simp; try with_reducible rfl)
      try simp only [Act.put, List.setIfInBounds_toArray, List.set_cons_zero, List.set_cons_succ]
      refine wpAnyH_take (i := 26) (oi := ⟨some 29, _, _, _, _, _⟩) (v := ?_) rfl (by kernel_rfl) (by kernel_rfl) (by kernel_rfl) (fun _ _ _ h => h) (Or.inl ⟨by rfl, ?_⟩) (by assumption) ?_
      rotate_left
      · (intro w hSw; (try dsimp only at hSw); go_simp; try with_reducible rfl)
      try simp only [Act.put, List.setIfInBounds_toArray, List.set_cons_zero, List.set_cons_succ]
      refine wpAnyH_take (i := 27) (oi := ⟨some 2, _, _, _, _, _⟩) (v := ?_) rfl (by kernel_rfl) (by kernel_rfl) (by kernel_rfl) (fun _ _ _ h => h) (Or.inl ⟨by rfl, ?_⟩) (by assumption) ?_
      rotate_left
      · (intro w hSw; (try dsimp only at hSw); go_simp; try with_reducible rfl)
      try simp only [Act.put, List.setIfInBounds_toArray, List.set_cons_zero, List.set_cons_succ]
      refine wpAnyH_done (by kernel_rfl) ?_ _
      go_wp2_with fail
      go_ret
      obtain ⟨⟨_, hB⟩, _⟩ := ‹(_ ∧ Below _ _ _) ∧ _›
      exact ⟨by simp [visitT], hB⟩

theorem specVisitText_ok (xDay : Int) (xWho : ByteArray) (xKind : Int) (xAmount : Int) (w : World) (hsWho : xWho.size ≤ maxLen) :
    Calls Tryd.prog 11 #[.agg #[.int .i64 xDay, .string xWho, .int .i64 xKind, .int .i64 xAmount]] w fun e w' => e = .returned (.string (orNo (visitB xDay xWho xKind xAmount) (visitT xDay xWho xKind xAmount))) ∧ Below w.heap.size w w' := by
  have HC0 := hid (HasC.new w [.int .i64 xDay, .string xWho, .int .i64 xKind, .int .i64 xAmount] 26)
  cases hv : visitB xDay xWho xKind xAmount
  · clear HC0
    go_enter Tryd.func11, Tryd.ntmps11
    go_wp2_with (go_at_call 37; refine (visitOne_ok xDay xWho xKind xAmount _ _ _ hsWho (by simp) (by simp) (by simp) (by simp)).mono ?_; rintro e w1 ⟨rfl, hb⟩)
    go_ret
    exact ⟨rfl, below_chain hb (Below.refl _ _)⟩
  · have HV := hid hv
    go_enter Tryd.func11, Tryd.ntmps11
    go_wp2_with (first | (go_at_call 37; refine (visitOne_ok xDay xWho xKind xAmount _ _ _ hsWho (by simp) (by simp) (by simp) (by simp)).mono ?_; rintro e w1 ⟨rfl, hb⟩; have HC := hid (HC0.out.below hb); clear HC0) | (go_at_call 38; refine (visitSText_ok xDay xWho xKind xAmount _ _ _ HV.out HC.out.1 (HC.out.2 0 _ rfl) (HC.out.2 1 _ rfl) (HC.out.2 2 _ rfl) (HC.out.2 3 _ rfl)).mono ?_; rintro e w2 ⟨rfl, hb1⟩))
    go_ret
    exact ⟨by simp [orNo], below_chain hb hb1⟩

theorem toVisit_ok (xDay : Int) (xWho : ByteArray) (xKind : Int) (xAmount : Int) (w : World) :
    Calls Tryd.prog 12 #[.agg #[.int .i64 xDay, .string xWho, .int .i64 xKind, .int .i64 xAmount]] w fun e w' => e = .returned (.agg #[.int .i64 xDay, .string xWho, .int .i64 xKind, .int .i64 xAmount]) ∧ Below w.heap.size w w' := by
  go_enter Tryd.func12, Tryd.ntmps12
  go_wp2_with fail
  exact bodyPost_ret (v := .agg #[.int .i64 xDay, .string xWho, .int .i64 xKind, .int .i64 xAmount]) (by simp [results, Tryd.results12, go_sem]) rfl ⟨rfl, ((below_alloc _ _).alloc (by simp) _).alloc (by simp; omega) _⟩

theorem szVisit_ok (xDay : Int) (xWho : ByteArray) (xKind : Int) (xAmount : Int) (l : Int) (w : World) (hsWho : xWho.size ≤ maxLen) (h0 : 0 ≤ l) (h1 : l ≤ 1048576) :
    Calls Tryd.prog 10 #[.agg #[.int .i64 xDay, .string xWho, .int .i64 xKind, .int .i64 xAmount], .int .i64 l] w fun e w' => (∃ z : Int, e = .returned (.int .i64 z)) ∧ Below w.heap.size w w' := by
  unfold maxLen at hsWho
  go_enter Tryd.func10, Tryd.ntmps10
  go_wp2_with fail
  all_goals (go_ret; exact ⟨⟨_, rfl⟩, below_alloc _ _⟩)

set_option maxHeartbeats 800000 in
theorem lawVisit_ok (xDay : Int) (xWho : ByteArray) (xKind : Int) (xAmount : Int) (w : World) (hsWho : xWho.size ≤ maxLen) (ht : Tab w) :
    Calls Tryd.prog 3 #[.agg #[.int .i64 xDay, .string xWho, .int .i64 xKind, .int .i64 xAmount]] w fun e w' => e = .returned (.bool true) ∧ Below w.heap.size w w' := by
  have HT := hid (ht.alloc (.cells [.int .i64 xDay, .string xWho, .int .i64 xKind, .int .i64 xAmount].toArray 23))
  have HH := hid (HasC.new w [.int .i64 xDay, .string xWho, .int .i64 xKind, .int .i64 xAmount] 23)
  have HB := hid (below_alloc w (.cells [.int .i64 xDay, .string xWho, .int .i64 xKind, .int .i64 xAmount].toArray 23))
  clear ht
  go_enter Tryd.func3, Tryd.ntmps3
  go_wp2_with fail
  refine (szVisit_ok xDay xWho xKind xAmount _ _ hsWho (by omega) (by omega)).mono ?_
  rintro e w1 ⟨⟨z, rfl⟩, hb⟩
  have H1 := hid (HH.out.below hb)
  have T1 := hid (HT.out.below hb)
  have B1 := hid (below_trans HB.out hb)
  have c0 := H1.out.2 0 _ rfl
  have c1 := H1.out.2 1 _ rfl
  have c2 := H1.out.2 2 _ rfl
  have c3 := H1.out.2 3 _ rfl
  clear hb HT HH HB
  go_wp2_with fail
  · go_ret
    exact ⟨rfl, B1.out⟩
  refine (toVisit_ok xDay xWho xKind xAmount _).mono ?_
  rintro e w2 ⟨rfl, hb⟩
  have H2 := hid (H1.out.below hb)
  have T2 := hid (T1.out.below hb)
  have B2 := hid (below_trans B1.out hb)
  clear hb H1 T1 B1 c0 c1 c2 c3
  go_wp2_with fail
  refine (specVisitText_ok xDay xWho xKind xAmount _ hsWho).mono ?_
  rintro e w3 ⟨rfl, hb⟩
  have H3 := hid (H2.out.below hb)
  have T3 := hid (T2.out.below hb)
  have B3 := hid (below_trans B2.out hb)
  have c0 := H3.out.2 0 _ rfl
  have c1 := H3.out.2 1 _ rfl
  have c2 := H3.out.2 2 _ rfl
  have c3 := H3.out.2 3 _ rfl
  clear hb H2 T2 B2
  go_wp2_with fail
  refine (toVisit_ok xDay xWho xKind xAmount _).mono ?_
  rintro e w4 ⟨rfl, hb⟩
  have T4 := hid (T3.out.below hb)
  have B4 := hid (below_trans B3.out hb)
  clear hb H3 T3 B3 c0 c1 c2 c3
  go_wp2_with fail
  refine (VisitText_ok xDay xWho xKind xAmount _ hsWho T4.out).mono ?_
  rintro e w5 ⟨rfl, hb⟩
  have B5 := hid (below_trans B4.out hb)
  clear hb T4 B4
  go_wp2_with fail
  go_ret
  exact ⟨by simp, B5.out⟩

end Go.Proofs.YtbnnmmiflcpipaaDoor
