/- The law FnExactVersionText. -/
import Derived.Test.YtdjobekjfggndabDoorVersionI
import Derived.Test.YtdjobekjfggndabDoorVersionS
namespace Go.Proofs.YtdjobekjfggndabDoor
open Go.RowKit
set_option linter.unusedVariables false

theorem rows_of {w : World} {B : Nat} {A : Option Addr} {c : Nat} {xs : List DSetting} (h : w.ownsRow B 115 2 (.slice A xs.length c) xs.length (xs.map DSetting.cells).flatten) : RowsAt w 2 A (xs.map DSetting.cells) := rows_own h (by simp) (cellsSetting_len xs)

set_option maxHeartbeats 800000 in
set_option maxRecDepth 100000 in
theorem toVersion_ok (n p : Int) (memo : ByteArray) (A : Option Addr) (c : Nat) (xs : List DSetting) (w : World) (hA : RowsAt w 2 A (xs.map DSetting.cells)) (hn : xs.length ≤ 1048576) :
    Calls Tryd.prog 34 #[.agg #[.int .i64 n, .int .i64 p, .string memo, .slice A xs.length c]] w fun e w' => (∃ g, e = .returned (.agg #[.int .i64 n, .int .i64 p, .string memo, .slice (some ⟨g, 0, none⟩) xs.length xs.length]) ∧ w'.ownsRow w.heap.size 115 2 (.slice (some ⟨g, 0, none⟩) xs.length xs.length) xs.length (xs.map DSetting.cells).flatten) ∧ Below w.heap.size w w' := by
  have HA := hid hA
  clear hA
  go_enter Tryd.func34, Tryd.ntmps34
  go_wp2_with fail
  refine (toSettingS_ok A c xs _ (((HA.out.below (below_alloc _ _)).below (below_alloc _ _)).below (below_alloc _ _)) hn).mono ?_
  rintro e w1 ⟨g, rfl, hown, hb⟩
  have hsz : w.heap.size + 3 ≤ w1.heap.size := by have := hb.size; simp at this; omega
  obtain ⟨hc, hf⟩ := bcell hb
  have HO := hid hown
  have HB := hid hb
  clear hown hb
  go_wp2_with fail
  refine bodyPost_ret (v := .agg #[.int .i64 n, .int .i64 p, .string memo, .slice (some ⟨g, 0, none⟩) xs.length xs.length]) (by simp [results, Tryd.results34, go_sem, hc]) rfl ⟨⟨g, rfl, ?_⟩, ?_⟩
  · exact own_mono (ownsRow_setCell_below (ownsRow_setCell_below (ownsRow_setCell_below (ownsRow_setCell_below (ownsRow_setCell_below HO.out (by simp) _) (by simp <;> omega) _) (by simp <;> omega) _) (by simp <;> omega) _) (by simp <;> omega) _) (by simp <;> omega)
  · exact (((((((((below_alloc _ _).alloc (by simp) _).alloc (by simp <;> omega) _).trans (HB.out.mono (by simp <;> omega))).setCell (by simp <;> omega) _).setCell (by simp <;> omega) _).setCell (by simp <;> omega) _).setCell (by simp <;> omega) _).setCell (by simp <;> omega) _)

set_option maxHeartbeats 800000 in
set_option maxRecDepth 100000 in
theorem eqVersion_same (n p : Int) (memo : ByteArray) (A A' : Option Addr) (c c' : Nat) (xs : List DSetting) (w : World) (hA : RowsAt w 2 A (xs.map DSetting.cells)) (hA' : RowsAt w 2 A' (xs.map DSetting.cells)) (hn : xs.length ≤ 1048576) :
    Calls Tryd.prog 36 #[.agg #[.int .i64 n, .int .i64 p, .string memo, .slice A xs.length c], .agg #[.int .i64 n, .int .i64 p, .string memo, .slice A' xs.length c']] w fun e w' => e = .returned (.bool true) ∧ Below w.heap.size w w' := by
  have HA := hid ((hA.below (below_alloc _ (.cells #[.int .i64 n, .int .i64 p, .string memo, .slice A xs.length c] 64))).below (below_alloc _ (.cells #[.int .i64 n, .int .i64 p, .string memo, .slice A' xs.length c'] 64)))
  have HA' := hid ((hA'.below (below_alloc _ (.cells #[.int .i64 n, .int .i64 p, .string memo, .slice A xs.length c] 64))).below (below_alloc _ (.cells #[.int .i64 n, .int .i64 p, .string memo, .slice A' xs.length c'] 64)))
  clear hA hA'
  go_enter Tryd.func36, Tryd.ntmps36
  go_wp2_with (go_at_call 77; refine (eqSettingS_same _ _ _ _ _ _ HA.out HA'.out hn).mono ?_; rintro e w1 ⟨rfl, hb⟩)
  go_ret
  exact ⟨rfl, (((below_alloc _ _).alloc (by simp) _).trans (hb.mono (by simp <;> omega)))⟩

theorem szVersion_ok (n p : Int) (memo : ByteArray) (A : Option Addr) (c : Nat) (xs : List DSetting) (l : Int) (w : World) (hsId : memo.size ≤ maxLen) (hA : RowsAt w 2 A (xs.map DSetting.cells)) (hok : ∀ x ∈ xs, x.ok) (hn : xs.length ≤ maxLen) (h0 : 0 ≤ l) (h1 : l ≤ 1048576) :
    Calls Tryd.prog 32 #[.agg #[.int .i64 n, .int .i64 p, .string memo, .slice A xs.length c], .int .i64 l] w fun e w' => (∃ z : Int, e = .returned (.int .i64 z) ∧ (0 ≤ z → xs.length ≤ 1048576)) ∧ Below w.heap.size w w' := by
  unfold maxLen at hsId hn
  have HA := hid (hA.below (below_alloc w (.cells [.int .i64 n, .int .i64 p, .string memo, .slice A xs.length c].toArray 59)))
  have HK := hid hok
  clear hA hok
  go_enter Tryd.func32, Tryd.ntmps32
  go_wp2_with fail
  · go_ret
    exact ⟨⟨_, rfl, fun h => absurd h (by omega)⟩, below_alloc _ _⟩
  refine (szSettingS_ok _ _ _ _ _ HA.out HK.out hn (by omega) (by omega)).mono ?_
  rintro e w1 ⟨⟨z, rfl, hz0, hz1, hz2⟩, hb⟩
  go_wp2_with fail
  all_goals (go_ret; exact ⟨⟨_, rfl, fun hz => by first | exact absurd hz (by omega) | (have := hz2 hz; omega)⟩, below_chain hb (Below.refl _ _)⟩)

set_option maxHeartbeats 1600000 in
set_option maxRecDepth 100000 in
theorem lawVersion_ok (n p : Int) (memo : ByteArray) (A : Option Addr) (c : Nat) (xs : List DSetting) (w : World) (hsId : memo.size ≤ maxLen) (hA : RowsAt w 2 A (xs.map DSetting.cells)) (hok : ∀ x ∈ xs, x.ok) (hn : xs.length ≤ maxLen) (ht : Tab w) :
    Calls Tryd.prog 8 #[.agg #[.int .i64 n, .int .i64 p, .string memo, .slice A xs.length c]] w fun e w' => e = .returned (.bool true) ∧ Below w.heap.size w w' := by
  have HT := hid (ht.alloc (.cells [.int .i64 n, .int .i64 p, .string memo, .slice A xs.length c].toArray 59))
  have HH := hid (HasC.new w [.int .i64 n, .int .i64 p, .string memo, .slice A xs.length c] 59)
  have HB := hid (below_alloc w (.cells [.int .i64 n, .int .i64 p, .string memo, .slice A xs.length c].toArray 59))
  have HI := hid (hA.below (below_alloc w (.cells [.int .i64 n, .int .i64 p, .string memo, .slice A xs.length c].toArray 59)))
  have HK := hid hok
  clear ht hA hok
  go_enter Tryd.func8, Tryd.ntmps8
  go_wp2_with fail
  refine (szVersion_ok n p memo A c xs _ _ hsId HI.out HK.out hn (by omega) (by omega)).mono ?_
  rintro e w1 ⟨⟨z, rfl, hz⟩, hb⟩
  have HZ := hid hz
  have H1 := hid (HH.out.below hb)
  have T1 := hid (HT.out.below hb)
  have B1 := hid (below_trans HB.out hb)
  have I1 := hid (HI.out.below hb)
  have c0 := H1.out.2 0 _ rfl
  have c1 := H1.out.2 1 _ rfl
  have c2 := H1.out.2 2 _ rfl
  have c3 := H1.out.2 3 _ rfl
  clear hb HT HH HB HI hz
  go_wp2_with fail
  · go_ret
    exact ⟨rfl, B1.out⟩
  have hn2 : xs.length ≤ 1048576 := HZ.out ‹_›
  clear HZ
  refine (toVersion_ok n p memo A c xs _ I1.out hn2).mono ?_
  rintro e w2 ⟨⟨g2, rfl, hown⟩, hb⟩
  have J2 := hid (rows_of hown)
  have H2 := hid (H1.out.below hb)
  have T2 := hid (T1.out.below hb)
  have B2 := hid (below_trans B1.out hb)
  have I2 := hid (I1.out.below hb)
  clear hb H1 T1 B1 I1 c0 c1 c2 c3 hown
  go_wp2_with fail
  refine (specVersionText_ok n p memo _ _ xs _ hsId J2.out HK.out hn2).mono ?_
  rintro e w3 ⟨rfl, hb⟩
  have H3 := hid (H2.out.below hb)
  have T3 := hid (T2.out.below hb)
  have B3 := hid (below_trans B2.out hb)
  have I3 := hid (I2.out.below hb)
  have c0 := H3.out.2 0 _ rfl
  have c1 := H3.out.2 1 _ rfl
  have c2 := H3.out.2 2 _ rfl
  have c3 := H3.out.2 3 _ rfl
  clear hb H2 T2 B2 I2 J2
  go_wp2_with fail
  refine (toVersion_ok n p memo A c xs _ I3.out hn2).mono ?_
  rintro e w4 ⟨⟨g4, rfl, hown⟩, hb⟩
  have X4 := hid (HasC.new w4 [.int .i64 n, .int .i64 p, .string memo, .slice (some ⟨g4, 0, none⟩) xs.length xs.length] 64)
  have A4 := hid (below_alloc w4 (.cells [.int .i64 n, .int .i64 p, .string memo, .slice (some ⟨g4, 0, none⟩) xs.length xs.length].toArray 64))
  have J4 := hid ((rows_of hown).below A4.out)
  have H4 := hid ((H3.out.below hb).below A4.out)
  have T4 := hid ((T3.out.below hb).below A4.out)
  have B4 := hid (below_trans (below_trans B3.out hb) A4.out)
  have I4 := hid ((I3.out.below hb).below A4.out)
  clear hb H3 T3 B3 I3 c0 c1 c2 c3 hown A4
  go_wp2_with fail
  refine (VersionText_ok n p memo _ _ xs _ hsId J4.out HK.out hn2 T4.out).mono ?_
  rintro e w5 ⟨rfl, hb⟩
  have X5 := hid (X4.out.below hb)
  have H5 := hid (H4.out.below hb)
  have B5 := hid (below_trans B4.out hb)
  have I5 := hid (I4.out.below hb)
  have J5 := hid (J4.out.below hb)
  have d0 := X5.out.2 0 _ rfl
  have d1 := X5.out.2 1 _ rfl
  have d2 := X5.out.2 2 _ rfl
  have d3 := X5.out.2 3 _ rfl
  have c0 := H5.out.2 0 _ rfl
  have c1 := H5.out.2 1 _ rfl
  have c2 := H5.out.2 2 _ rfl
  have c3 := H5.out.2 3 _ rfl
  have q1 : w.heap.size < w5.heap.size := H5.out.1
  have q2 : w4.heap.size < w5.heap.size := X5.out.1
  clear hb X4 H4 T4 B4 I4 J4
  go_wp2_with fail
  go_region_held3 (fun w' => (True ∧ Below w5.heap.size w5 w') ∧ w'.cell? ⟨w.heap.size, 0, none⟩ = some (.int .i64 n) ∧ w'.cell? ⟨w.heap.size, 1, none⟩ = some (.int .i64 p) ∧ w'.cell? ⟨w.heap.size, 2, none⟩ = some (.string memo) ∧ w'.cell? ⟨w.heap.size, 3, none⟩ = some (.slice A xs.length c) ∧ w'.cell? ⟨w4.heap.size, 0, none⟩ = some (.int .i64 n) ∧ w'.cell? ⟨w4.heap.size, 1, none⟩ = some (.int .i64 p) ∧ w'.cell? ⟨w4.heap.size, 2, none⟩ = some (.string memo) ∧ w'.cell? ⟨w4.heap.size, 3, none⟩ = some (.slice (some ⟨g4, 0, none⟩) xs.length xs.length))
    (first | exact ⟨⟨trivial, (Below.refl _ _).drew⟩, c0, c1, c2, c3, d0, d1, d2, d3⟩ | exact keepM8 q1 q1 q1 q1 q2 q2 q2 q2 ‹_ ∧ _› ‹Below _ _ _›)
    (first | (go_at_call 34; refine (toVersion_ok n p memo A c xs _ (I5.out.below (And.right (And.left ‹(True ∧ _) ∧ _›))) hn2).mono ?_; rintro e w6 ⟨⟨g6, rfl, hown6⟩, hb6⟩) | (go_at_call 36; refine (eqVersion_same n p memo _ _ _ _ xs _ (J5.out.below (And.right (And.left ‹(True ∧ _) ∧ _›))) (rows_of hown6) hn2).mono ?_; rintro e w7 ⟨rfl, hb7⟩))
  go_wp2_with fail
  go_ret
  obtain ⟨⟨_, hB⟩, _⟩ := ‹(_ ∧ Below _ _ _) ∧ _›
  exact ⟨rfl, below_trans B5.out hB⟩

end Go.Proofs.YtdjobekjfggndabDoor
