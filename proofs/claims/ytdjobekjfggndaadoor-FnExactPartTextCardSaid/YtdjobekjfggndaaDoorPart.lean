/- PartText. -/
import Derived.Test.YtdjobekjfggndaaDoorDec
namespace Go.Proofs.YtdjobekjfggndaaDoor
open Go.RowKit
set_option linter.unusedVariables false

def partB (id : ByteArray) (at_ mass : Int) : Bool := nameB id && (inB at_ 0 8000 && inB mass 1 100000)

theorem isPlace_ok (n : Int) (w : World) : Calls Tryd.prog 83 #[.int .i64 n] w fun e w' => e = .returned (.bool (inB n 0 8000)) ∧ w = w' := by
  go_enter Tryd.func83, Tryd.ntmps83
  go_wp2_with (go_at_call 84; refine (within_ok _ _ _ _).mono ?_; rintro e w' ⟨rfl, rfl⟩)
  go_ret
  exact ⟨rfl, rfl⟩
theorem l11At_ok (n : Int) (w : World) : Calls Tryd.prog 79 #[.int .i64 n] w fun e w' => e = .returned (.bool (inB n 0 8000)) ∧ w = w' := by
  go_enter Tryd.func79, Tryd.ntmps79
  go_wp2_with (go_at_call 80; refine (l00In_ok _ _ _ _).mono ?_; rintro e w' ⟨rfl, rfl⟩)
  go_ret
  exact ⟨rfl, rfl⟩

theorem partValid_ok (id : ByteArray) (p m : Int) (w : World) (hs : id.size ≤ maxLen) :
    Calls Tryd.prog 50 #[.agg #[.string id, .int .i64 p, .int .i64 m]] w fun e w' => e = .returned (.bool (partB id p m)) ∧ Below w.heap.size w w' := by
  go_enter Tryd.func50, Tryd.ntmps50
  go_wp2_with (first | (go_at_call 82; refine (IsName_ok _ _ hs).mono ?_; rintro e w' ⟨rfl, rfl⟩) | (go_at_call 83; refine (isPlace_ok _ _).mono ?_; rintro e w' ⟨rfl, rfl⟩) | (go_at_call 84; refine (within_ok _ _ _ _).mono ?_; rintro e w' ⟨rfl, rfl⟩))
  all_goals (go_ret; exact ⟨ret_bool (by simp [partB, *]), (Below.refl _ _).alloc (Nat.le_refl _) _⟩)

theorem l11One_ok (id : ByteArray) (p m : Int) (b o : Nat) (w : World) (hs : id.size ≤ maxLen) (c0 : w.cell? ⟨b, o, none⟩ = some (.string id)) (c1 : w.cell? ⟨b, o + 1, none⟩ = some (.int .i64 p)) (c2 : w.cell? ⟨b, o + 2, none⟩ = some (.int .i64 m)) :
    Calls Tryd.prog 48 #[.pointer (some ⟨b, o, none⟩)] w fun e w' => e = .returned (.bool (partB id p m)) ∧ w = w' := by
  go_enter Tryd.func48, Tryd.ntmps48
  go_wp2_with (first | (go_at_call 78; refine (l01Name_ok _ _ hs).mono ?_; rintro e w' ⟨rfl, rfl⟩) | (go_at_call 79; refine (l11At_ok _ _).mono ?_; rintro e w' ⟨rfl, rfl⟩) | (go_at_call 80; refine (l00In_ok _ _ _ _).mono ?_; rintro e w' ⟨rfl, rfl⟩))
  all_goals (go_ret; exact ⟨ret_bool (by simp [partB, *]), rfl⟩)

/-- the text of a part -/
def partT (id : ByteArray) (p m : Int) : ByteArray := id ++ ⟨#[32]⟩ ++ dec m ++ ⟨#[64]⟩ ++ dec p
theorem partB_bd {id : ByteArray} {p m : Int} (h : partB id p m = true) : 0 ≤ p ∧ p ≤ 8000 ∧ 1 ≤ m ∧ m ≤ 100000 := by
  simp [partB, inB] at h
  omega

theorem partB_nm {id : ByteArray} {p m : Int} (h : partB id p m = true) : id.size ≤ 10 := by
  simp only [partB, Bool.and_eq_true] at h
  exact name_size h.1

theorem PartText_ok (id : ByteArray) (p m : Int) (w : World) (hs : id.size ≤ maxLen) (ht : Tab w) :
    Calls Tryd.prog 15 #[.agg #[.string id, .int .i64 p, .int .i64 m]] w fun e w' => e = .returned (.string (orNo (partB id p m) (partT id p m))) ∧ Below w.heap.size w w' := by
  cases hv : partB id p m
  · go_enter Tryd.func15, Tryd.ntmps15
    go_wp2_with (go_at_call 50; refine (partValid_ok _ _ _ _ hs).mono ?_; rintro e w1 ⟨rfl, hb⟩)
    go_ret
    exact ⟨rfl, below_chain hb (Below.refl _ _)⟩
  · have bd := partB_bd hv
    go_enter Tryd.func15, Tryd.ntmps15
    go_wp2_with (go_at_call 50; refine (partValid_ok _ _ _ _ hs).mono ?_; rintro e w1 ⟨rfl, hb⟩; obtain ⟨hc, hf⟩ := bcell hb)
    have hlt : w.heap.size < w1.heap.size := by have := hb.size; simp at this; omega
    have k0 : w1.cell? ⟨w.heap.size, 0, none⟩ = some (.string id) := by rw [hc _ _ (by simp)]; simp
    have k1 : w1.cell? ⟨w.heap.size, 1, none⟩ = some (.int .i64 p) := by rw [hc _ _ (by simp)]; simp
    have k2 : w1.cell? ⟨w.heap.size, 2, none⟩ = some (.int .i64 m) := by rw [hc _ _ (by simp)]; simp
    have ht1 : Tab w1 := (ht.alloc _).below hb
    clear hc hf ht
    have s0 : id.size ≤ 10 := partB_nm hv
    have s1 : (dec m).size ≤ 20 := dec_size (by omega) (by omega)
    have s2 : (dec p).size ≤ 20 := dec_size (by omega) (by omega)
    have g1 : ¬ 9223372036854775807 < id.size + 1 := by omega
    have g2 : ¬ 9223372036854775807 < id.size + 1 + (dec m).size := by omega
    have g3 : ¬ 9223372036854775807 < id.size + 1 + (dec m).size + 1 := by omega
    have g4 : ¬ 9223372036854775807 < id.size + 1 + (dec m).size + 1 + (dec p).size := by omega
    go_region_held3 (fun w' => (Tab w' ∧ Below w1.heap.size w1 w') ∧ w'.cell? ⟨w.heap.size, 0, none⟩ = some (.string id) ∧ w'.cell? ⟨w.heap.size, 1, none⟩ = some (.int .i64 p) ∧ w'.cell? ⟨w.heap.size, 2, none⟩ = some (.int .i64 m))
      (first | exact ⟨⟨ht1.drew, (Below.refl _ _).drew⟩, k0, k1, k2⟩ | exact keep3 hlt ‹_ ∧ _› ‹Below _ _ _›)
      (first | (go_at_call 51; refine (Decimal_ok _ _ (by omega) (by omega) (And.left (And.left ‹(Tab _ ∧ _) ∧ _›))).mono ?_; rintro e w2 ⟨rfl, hb2⟩))
    go_wp2_with fail
    go_ret
    obtain ⟨⟨_, hB⟩, _⟩ := ‹(Tab _ ∧ _) ∧ _›
    exact ⟨by simp [partT, orNo], below_chain hb hB⟩

theorem l11Text_ok (id : ByteArray) (p m : Int) (b o : Nat) (w : World) (hv : partB id p m = true) (hlt : b < w.heap.size) (k0 : w.cell? ⟨b, o, none⟩ = some (.string id)) (k1 : w.cell? ⟨b, o + 1, none⟩ = some (.int .i64 p)) (k2 : w.cell? ⟨b, o + 2, none⟩ = some (.int .i64 m)) :
    Calls Tryd.prog 49 #[.pointer (some ⟨b, o, none⟩)] w fun e w' => e = .returned (.string (partT id p m)) ∧ Below w.heap.size w w' := by
  have bd := partB_bd hv
  have s0 : id.size ≤ 10 := partB_nm hv
  have s1 : (dec m).size ≤ 20 := dec_size (by omega) (by omega)
  have s2 : (dec p).size ≤ 20 := dec_size (by omega) (by omega)
  have g1 : ¬ 9223372036854775807 < id.size + 1 := by omega
  have g2 : ¬ 9223372036854775807 < id.size + 1 + (dec m).size := by omega
  have g3 : ¬ 9223372036854775807 < id.size + 1 + (dec m).size + 1 := by omega
  have g4 : ¬ 9223372036854775807 < id.size + 1 + (dec m).size + 1 + (dec p).size := by omega
  have HV := hid hv
  clear hv
  go_enter Tryd.func49, Tryd.ntmps49
  go_wp2_with fail
  go_region_held3 (fun w' => (True ∧ Below w.heap.size w w') ∧ w'.cell? ⟨b, o, none⟩ = some (.string id) ∧ w'.cell? ⟨b, o + 1, none⟩ = some (.int .i64 p) ∧ w'.cell? ⟨b, o + 2, none⟩ = some (.int .i64 m))
    (first | exact ⟨⟨trivial, (Below.refl _ _).drew⟩, k0, k1, k2⟩ | exact keep3' hlt ‹_ ∧ _› ‹Below _ _ _›)
    (first | (go_at_call 81; refine (l01Dec_ok _ _ (by omega) (by omega)).mono ?_; rintro e w2 ⟨rfl, hb2⟩))
  go_wp2_with fail
  go_ret
  obtain ⟨⟨_, hB⟩, _⟩ := ‹(_ ∧ Below _ _ _) ∧ _›
  exact ⟨by simp [partT], hB⟩

theorem specPartText_ok (id : ByteArray) (p m : Int) (w : World) (hs : id.size ≤ maxLen) :
    Calls Tryd.prog 13 #[.agg #[.string id, .int .i64 p, .int .i64 m]] w fun e w' => e = .returned (.string (orNo (partB id p m) (partT id p m))) ∧ Below w.heap.size w w' := by
  cases hv : partB id p m
  · go_enter Tryd.func13, Tryd.ntmps13
    go_wp2_with (go_at_call 48; refine (l11One_ok id p m _ _ _ hs (by simp) (by simp) (by simp)).mono ?_; rintro e w1 ⟨rfl, rfl⟩)
    go_ret
    exact ⟨rfl, below_alloc _ _⟩
  · have HV := hid hv
    go_enter Tryd.func13, Tryd.ntmps13
    go_wp2_with (first | (go_at_call 48; refine (l11One_ok id p m _ _ _ hs (by simp) (by simp) (by simp)).mono ?_; rintro e w1 ⟨rfl, rfl⟩) | (go_at_call 49; refine (l11Text_ok id p m _ _ _ HV.out (by simp) (by simp) (by simp) (by simp)).mono ?_; rintro e w1 ⟨rfl, hb1⟩))
    go_ret
    exact ⟨by simp [orNo], below_chain hb1 (Below.refl _ _)⟩

theorem toPart_ok (id : ByteArray) (p m : Int) (w : World) :
    Calls Tryd.prog 14 #[.agg #[.string id, .int .i64 p, .int .i64 m]] w fun e w' => e = .returned (.agg #[.string id, .int .i64 p, .int .i64 m]) ∧ Below w.heap.size w w' := by
  go_enter Tryd.func14, Tryd.ntmps14
  go_wp2_with fail
  exact bodyPost_ret (v := .agg #[.string id, .int .i64 p, .int .i64 m]) (by simp [results, Tryd.results14, go_sem]) rfl ⟨rfl, ((below_alloc _ _).alloc (by simp) _).alloc (by simp; omega) _⟩

theorem szPart_ok (id : ByteArray) (p m l : Int) (w : World) (hs : id.size ≤ maxLen) (h0 : 0 ≤ l) (h1 : l ≤ 1048576) :
    Calls Tryd.prog 12 #[.agg #[.string id, .int .i64 p, .int .i64 m], .int .i64 l] w fun e w' => (∃ z : Int, e = .returned (.int .i64 z)) ∧ Below w.heap.size w w' := by
  unfold maxLen at hs
  go_enter Tryd.func12, Tryd.ntmps12
  go_wp2_with fail
  all_goals (go_ret; exact ⟨⟨_, rfl⟩, below_alloc _ _⟩)

theorem lawPart_ok (id : ByteArray) (p m : Int) (w : World) (hs : id.size ≤ maxLen) (ht : Tab w) :
    Calls Tryd.prog 3 #[.agg #[.string id, .int .i64 p, .int .i64 m]] w fun e w' => e = .returned (.bool true) ∧ Below w.heap.size w w' := by
  have HT := hid (ht.alloc (.cells [.string id, .int .i64 p, .int .i64 m].toArray 23))
  have HH := hid (HasC.new w [.string id, .int .i64 p, .int .i64 m] 23)
  have HB := hid (below_alloc w (.cells [.string id, .int .i64 p, .int .i64 m].toArray 23))
  clear ht
  go_enter Tryd.func3, Tryd.ntmps3
  go_wp2_with fail
  refine (szPart_ok id p m _ _ hs (by omega) (by omega)).mono ?_
  rintro e w1 ⟨⟨z, rfl⟩, hb⟩
  have H1 := hid (HH.out.below hb)
  have T1 := hid (HT.out.below hb)
  have B1 := hid (below_trans HB.out hb)
  have c0 := H1.out.2 0 _ rfl
  have c1 := H1.out.2 1 _ rfl
  have c2 := H1.out.2 2 _ rfl
  clear hb HT HH HB
  go_wp2_with fail
  · go_ret
    exact ⟨rfl, B1.out⟩
  refine (toPart_ok id p m _).mono ?_
  rintro e w2 ⟨rfl, hb⟩
  have H2 := hid (H1.out.below hb)
  have T2 := hid (T1.out.below hb)
  have B2 := hid (below_trans B1.out hb)
  clear hb H1 T1 B1 c0 c1 c2
  go_wp2_with fail
  refine (specPartText_ok id p m _ hs).mono ?_
  rintro e w3 ⟨rfl, hb⟩
  have H3 := hid (H2.out.below hb)
  have T3 := hid (T2.out.below hb)
  have B3 := hid (below_trans B2.out hb)
  have c0 := H3.out.2 0 _ rfl
  have c1 := H3.out.2 1 _ rfl
  have c2 := H3.out.2 2 _ rfl
  clear hb H2 T2 B2
  go_wp2_with fail
  refine (toPart_ok id p m _).mono ?_
  rintro e w4 ⟨rfl, hb⟩
  have T4 := hid (T3.out.below hb)
  have B4 := hid (below_trans B3.out hb)
  clear hb H3 T3 B3 c0 c1 c2
  go_wp2_with fail
  refine (PartText_ok id p m _ hs T4.out).mono ?_
  rintro e w5 ⟨rfl, hb⟩
  have B5 := hid (below_trans B4.out hb)
  clear hb T4 B4
  go_wp2_with fail
  go_ret
  exact ⟨by simp, B5.out⟩

end Go.Proofs.YtdjobekjfggndaaDoor
