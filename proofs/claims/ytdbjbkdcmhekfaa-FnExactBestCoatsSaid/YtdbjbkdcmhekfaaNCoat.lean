/- The laws' helpers over Coat and slices of it. -/
import Derived.Test.YtdbjbkdcmhekfaaNest
import Derived.Test.YtdbjbkdcmhekfaaInts
import Derived.Test.YtdbjbkdcmhekfaaHas
import Derived.Test.YtdbjbkdcmhekfaaKeepM
import Derived.Test.YtdbjbkdcmhekfaaMarks
namespace Go.Proofs.Ytdbjbkdcmhekfaa
open Go.RowKit
set_option linter.unusedVariables false

structure DCoat where
  fId : ByteArray
  fDays : Int
  fCover : Int
  fIn : List Int
def hdCoat (x : DCoat) : List Value := [.string x.fId, .int .i64 x.fDays, .int .i64 x.fCover]
def inCoat (x : DCoat) : List (List Value) := cellsI x.fIn
def DCoat.ok (x : DCoat) : Prop := x.fId.size ≤ 9223372036854775807 ∧ x.fIn.length ≤ 9223372036854775807
theorem hdCoat_length (x : DCoat) : (hdCoat x).length = 3 := rfl
theorem inCoat_length (x : DCoat) : (inCoat x).length = x.fIn.length := by simp [inCoat, cellsI]
theorem inCoat_len (x : DCoat) : ∀ c ∈ inCoat x, c.length = 1 := cellsI_len x.fIn
theorem inCoat_flat (x : DCoat) : (inCoat x).flatten = x.fIn.map (Value.int .i64) := cellsI_flat x.fIn
theorem infoCoat : (Try.prog.info? 147).map (fun i => (i.zero, i.size, i.bytes)) = some (some (.agg #[.string ⟨#[]⟩, .int .i64 0, .int .i64 0, .slice none 0 0]), 4, 56) := by kernel_rfl
theorem NestAt.atCoat {w : World} {A : Option Addr} {vs : List DCoat} (h : NestAt 1 hdCoat inCoat w A vs) {i : Nat} (hi : i < vs.length) : ∃ b o A' c', A = some ⟨b, o, none⟩ ∧ b < w.heap.size ∧ w.cell? ⟨b, o + i * 4, none⟩ = some (.string vs[i].fId) ∧ w.cell? ⟨b, o + i * 4 + 1, none⟩ = some (.int .i64 vs[i].fDays) ∧ w.cell? ⟨b, o + i * 4 + 2, none⟩ = some (.int .i64 vs[i].fCover) ∧ w.cell? ⟨b, o + i * 4 + 3, none⟩ = some (.slice A' vs[i].fIn.length c') ∧ RowsAt w 1 A' (inCoat vs[i]) := by
  obtain ⟨b, o, rfl, hlt, hc⟩ := h (by intro e; rw [e] at hi; exact absurd hi (by simp))
  obtain ⟨h1, A', c', h2, h3⟩ := hc i vs[i] (List.getElem?_eq_getElem hi)
  rw [inCoat_length] at h2
  exact ⟨b, o, A', c', rfl, hlt, h1 0 _ rfl, h1 1 _ rfl, h1 2 _ rfl, h2, h3⟩

set_option maxHeartbeats 800000 in
set_option maxRecDepth 100000 in
theorem toCoat_ok (x : DCoat) (A : Option Addr) (c : Nat) (w : World) (hA : RowsAt w 1 A (inCoat x)) (hn : x.fIn.length ≤ 1048576) :
    Calls Try.prog 99 #[.agg #[.string x.fId, .int .i64 x.fDays, .int .i64 x.fCover, .slice A x.fIn.length c]] w fun e w' => (∃ g, e = .returned (.agg #[.string x.fId, .int .i64 x.fDays, .int .i64 x.fCover, .slice (some ⟨g, 0, none⟩) x.fIn.length x.fIn.length]) ∧ w'.ownsRow w.heap.size 2 1 (.slice (some ⟨g, 0, none⟩) (inCoat x).length (inCoat x).length) (inCoat x).length (inCoat x).flatten) ∧ Below w.heap.size w w' := by
  have HA := hid hA
  clear hA
  go_enter Try.func99, Try.ntmps99
  go_wp2_with fail
  refine (toInt64S_ok A c x.fIn _ (rows_ints (((HA.out.below (below_alloc _ _)).below (below_alloc _ _)).below (below_alloc _ _))) hn).mono ?_
  rintro e w1 ⟨_, rfl, ⟨g, rfl⟩, hown, hb⟩
  have hsz : w.heap.size + 3 ≤ w1.heap.size := by have := hb.size; simp at this; omega
  obtain ⟨hc, hf⟩ := bcell hb
  have HO := hid hown
  have HB := hid hb
  clear hown hb
  go_wp2_with fail
  refine bodyPost_ret (v := .agg #[.string x.fId, .int .i64 x.fDays, .int .i64 x.fCover, .slice (some ⟨g, 0, none⟩) x.fIn.length x.fIn.length]) (by simp [results, Try.results99, go_sem, hc]) rfl ⟨⟨g, rfl, ?_⟩, ?_⟩
  · rw [inCoat_length, inCoat_flat]
    exact own_mono (ownsRow_setCell_below (ownsRow_setCell_below (ownsRow_setCell_below (ownsRow_setCell_below (ownsRow_setCell_below HO.out (by simp) _) (by simp <;> omega) _) (by simp <;> omega) _) (by simp <;> omega) _) (by simp <;> omega) _) (by simp <;> omega)
  · exact (((((((((below_alloc _ _).alloc (by simp) _).alloc (by simp <;> omega) _).trans (HB.out.mono (by simp <;> omega))).setCell (by simp <;> omega) _).setCell (by simp <;> omega) _).setCell (by simp <;> omega) _).setCell (by simp <;> omega) _).setCell (by simp <;> omega) _)

def CopyCoat (w : World) (xs : List DCoat) (i : Value) (wr : World) : Prop :=
  ∃ (j : Nat) (gs : List Nat), j ≤ xs.length ∧ i = .int .i64 j ∧ wr.ownsRow w.heap.size 147 4 (.slice (some ⟨w.heap.size, 0, none⟩) xs.length xs.length) xs.length ((nestRows hdCoat inCoat (xs.take j) gs ++ List.replicate (xs.length - j) [Value.string ⟨#[]⟩, Value.int .i64 0, Value.int .i64 0, Value.slice none 0 0]).flatten) ∧ InnerOwn wr 2 1 inCoat w.heap.size (xs.take j) gs ∧ Below w.heap.size w wr ∧ w.heap.size < wr.heap.size
theorem partCoat_len (xs : List DCoat) (j n : Nat) (gs : List Nat) : ∀ c ∈ nestRows hdCoat inCoat (xs.take j) gs ++ List.replicate n [Value.string ⟨#[]⟩, Value.int .i64 0, Value.int .i64 0, Value.slice none 0 0], c.length = 4 := fun c hc => by
  rcases List.mem_append.1 hc with h | h
  · exact nestRows_len hdCoat_length _ _ c h
  · rw [List.eq_of_mem_replicate h]; rfl

set_option maxHeartbeats 1600000 in
set_option maxRecDepth 100000 in
theorem toCoatS_ok (A : Option Addr) (c : Nat) (xs : List DCoat) (w : World) (hA : NestAt 1 hdCoat inCoat w A xs) (hn : xs.length ≤ 1048576) (hi : ∀ x ∈ xs, x.fIn.length ≤ 1048576) :
    Calls Try.prog 35 #[.slice A xs.length c] w fun e w' => ∃ g, e = .returned (.slice (some ⟨g, 0, none⟩) xs.length xs.length) ∧ NestOwn w' w.heap.size w'.heap.size 147 2 1 hdCoat inCoat g xs ∧ Below w.heap.size w w' := by
  obtain ⟨i0, hii, hz0, hz1, hz2⟩ := info_parts infoCoat
  have HA := hid hA
  have HI := hid hi
  clear hA hi
  go_enter Try.func35, Try.ntmps35
  go_wp2_with (at_make; refine wpList_make_full _ rfl _ _ _ rfl w.heap.size 147 i0 (.agg #[.string ⟨#[]⟩, .int .i64 0, .int .i64 0, .slice none 0 0]) 4 Try.underlying57 hii hz0 hz1 .i64 .i64 _ _ xs.length rfl rfl rfl rfl (by rw [hz2]; omega) (by unfold maxLen; omega) (Nat.le_refl _) ?_; intro w1 hown1 hg1)
  go_loopw [4] (fun i wr => CopyCoat w xs i wr) (fun i _ => xs.length - (intOf i).toNat)
  case atStart =>
    refine ⟨0, [], Nat.zero_le _, rfl, ?_, InnerOwn.nil _ _ _, (Below.refl _ _).grown hg1 (Nat.le_refl _) (fun k hk => by cases hk), (hown1.lt w.heap.size rfl).2⟩
    have e : ((nestRows hdCoat inCoat (xs.take 0) [] ++ List.replicate (xs.length - 0) [Value.string ⟨#[]⟩, Value.int .i64 0, Value.int .i64 0, Value.slice none 0 0]).flatten) = (madeCells (Value.agg #[.string ⟨#[]⟩, .int .i64 0, .int .i64 0, .slice none 0 0]).cells (xs.length * 4)).toList := by
      have h := made_rows #[.string ⟨#[]⟩, .int .i64 0, .int .i64 0, .slice none 0 0] xs.length 4 rfl (by omega)
      rw [List.take_zero, Nat.sub_zero]
      exact h.symm
    rw [e]
    exact hown1
  case round =>
    obtain ⟨j, gs, hj, rfl, hown, hin, hbel, hws⟩ := hrel
    by_cases hkl : j < xs.length
    · obtain ⟨b, o, A', c', rfl, hlt, hc0, hc1, hc2, hc3, hr⟩ := (HA.out.below hbel).atCoat hkl
      have HO := hid hown
      have HN := hid hin
      have HR := hid hr
      have HX := hid (HI.out xs[j] (List.getElem_mem hkl))
      clear hown hin hr
      go_wp2_with fail
      refine (toCoat_ok xs[j] _ _ _ HR.out HX.out).mono ?_
      rintro e w2 ⟨⟨g, rfl, hog⟩, hb⟩
      have O1 := hid (own_below HO.out hb)
      have N1 := hid (HN.out.below hb)
      have OG := hid hog
      have B1 := hid (below_up hbel (by have := hbel.size; omega) hb)
      have S1 := hb.size
      have NL := hid (fun (i g' : Nat) (h : gs[i]? = some g') => (HN.out.2.2 i _ g' (List.getElem?_eq_getElem (by have := (List.getElem?_eq_some_iff.1 h).1; have := HN.out.1; omega)) h).2.1)
      obtain ⟨u0, hold0⟩ : ∃ u, w2.cell? ⟨w.heap.size, j * 4, none⟩ = some u := own_cell O1.out (by omega)
      have hfr0 := O1.out.frozenAt (j * 4)
      obtain ⟨u1, hold1⟩ : ∃ u, w2.cell? ⟨w.heap.size, j * 4 + 1, none⟩ = some u := own_cell O1.out (by omega)
      have hfr1 := O1.out.frozenAt (j * 4 + 1)
      obtain ⟨u2, hold2⟩ : ∃ u, w2.cell? ⟨w.heap.size, j * 4 + 2, none⟩ = some u := own_cell O1.out (by omega)
      have hfr2 := O1.out.frozenAt (j * 4 + 2)
      obtain ⟨u3, hold3⟩ : ∃ u, w2.cell? ⟨w.heap.size, j * 4 + 3, none⟩ = some u := own_cell O1.out (by omega)
      have hfr3 := O1.out.frozenAt (j * 4 + 3)
      clear hb HO HN HR HX hog hc0 hc1 hc2 hc3
      go_wp2_with fail
      go_roundw
      case rel =>
        have hgl := OG.out.lt g rfl
        have hws2 : w.heap.size < w2.heap.size := by omega
        refine ⟨j + 1, gs ++ [g], by omega, by go_num, ?_, ?_, below_setCells (Nat.le_refl _) [.string xs[j].fId, .int .i64 xs[j].fDays, .int .i64 xs[j].fCover, .slice (some ⟨g, 0, none⟩) xs[j].fIn.length xs[j].fIn.length] B1.out, ?_⟩
        · have e := own_setCells [.string xs[j].fId, .int .i64 xs[j].fDays, .int .i64 xs[j].fCover, .slice (some ⟨g, 0, none⟩) xs[j].fIn.length xs[j].fIn.length] (p := j * 4) O1.out
          rw [setSeg_flatten (partCoat_len xs j _ gs) (by rw [List.length_append, nestRows_length (by rw [N1.out.1]), List.length_take, List.length_replicate]; omega) rfl] at e
          have e3 : [.string xs[j].fId, .int .i64 xs[j].fDays, .int .i64 xs[j].fCover, .slice (some ⟨g, 0, none⟩) xs[j].fIn.length xs[j].fIn.length] = nestRow hdCoat inCoat xs[j] g := by rw [nestRow, inCoat_length]; rfl
          have e2 := nest_set (hd := hdCoat) (inn := inCoat) hdCoat_length (vs := xs) (gs := gs) (z := [Value.string ⟨#[]⟩, Value.int .i64 0, Value.int .i64 0, Value.slice none 0 0]) (n := xs.length) (j := j) (g := g) hkl (by rw [N1.out.1, List.length_take]; omega) rfl
          have e4 := e2
          rw [← e3] at e4
          rw [e4] at e
          exact e
        · rw [List.take_succ_eq_append_getElem hkl]
          have q : Chg w.heap.size (w.heap.size + 1) w2 (setCells w2 w.heap.size (j * 4) [.string xs[j].fId, .int .i64 xs[j].fDays, .int .i64 xs[j].fCover, .slice (some ⟨g, 0, none⟩) xs[j].fIn.length xs[j].fIn.length]) := Chg.setCells (Nat.le_refl _) (by omega) _ (Chg.refl _ _ _)
          have hog2 := OG.out
          refine (N1.out.low q (Nat.le_refl _)).snoc (by omega) (Nat.lt_of_lt_of_le hgl.2 q.size) (fun i g' h => Nat.lt_of_lt_of_le (NL.out i g' h) hgl.1) ?_
          exact own_chg (own_base hog2) q (by omega)
        · exact Nat.lt_of_lt_of_le hws2 (below_setCells (B := 0) (Nat.zero_le _) [.string xs[j].fId, .int .i64 xs[j].fDays, .int .i64 xs[j].fCover, .slice (some ⟨g, 0, none⟩) xs[j].fIn.length xs[j].fIn.length] (Below.refl 0 w2)).size
      case measure => simp [intOf]; omega
    · have hk2 : j = xs.length := by omega
      subst hk2
      rw [Nat.sub_self, List.replicate_zero, List.append_nil, List.take_length] at hown
      rw [List.take_length] at hin
      have HO := hid hown
      have HN := hid hin
      clear hown hin
      go_wp2_with fail
      go_ret
      exact ⟨_, rfl, ⟨gs, HO.out, HN.out, hws, fun i gi h => (HN.out.2.2 i _ gi (List.getElem?_eq_getElem (by have := (List.getElem?_eq_some_iff.1 h).1; have := HN.out.1; omega)) h).2.1⟩, hbel⟩

set_option maxHeartbeats 800000 in
set_option maxRecDepth 100000 in
theorem eqCoat_same (x : DCoat) (A A' : Option Addr) (c c' : Nat) (w : World) (hA : RowsAt w 1 A (inCoat x)) (hA' : RowsAt w 1 A' (inCoat x)) (hn : x.fIn.length ≤ 1048576) :
    Calls Try.prog 103 #[.agg #[.string x.fId, .int .i64 x.fDays, .int .i64 x.fCover, .slice A x.fIn.length c], .agg #[.string x.fId, .int .i64 x.fDays, .int .i64 x.fCover, .slice A' x.fIn.length c']] w fun e w' => e = .returned (.bool true) ∧ Below w.heap.size w w' := by
  have HA := hid ((hA.below (below_alloc _ (.cells #[.string x.fId, .int .i64 x.fDays, .int .i64 x.fCover, .slice A x.fIn.length c] 147))).below (below_alloc _ (.cells #[.string x.fId, .int .i64 x.fDays, .int .i64 x.fCover, .slice A' x.fIn.length c'] 147)))
  have HA' := hid ((hA'.below (below_alloc _ (.cells #[.string x.fId, .int .i64 x.fDays, .int .i64 x.fCover, .slice A x.fIn.length c] 147))).below (below_alloc _ (.cells #[.string x.fId, .int .i64 x.fDays, .int .i64 x.fCover, .slice A' x.fIn.length c'] 147)))
  clear hA hA'
  go_enter Try.func103, Try.ntmps103
  go_wp2_with (go_at_call 13; refine (eqInt64S_same _ _ _ _ x.fIn _ (rows_ints (HA.out)) (rows_ints (HA'.out)) hn).mono ?_; rintro e w1 ⟨rfl, hb⟩)
  go_ret
  exact ⟨rfl, (((below_alloc _ _).alloc (by simp) _).trans (hb.mono (by simp <;> omega)))⟩

set_option maxHeartbeats 1600000 in
set_option maxRecDepth 100000 in
theorem eqCoatS_same (A A' : Option Addr) (c c' : Nat) (xs : List DCoat) (w : World) (hA : NestAt 1 hdCoat inCoat w A xs) (hA' : NestAt 1 hdCoat inCoat w A' xs) (hn : xs.length ≤ 1048576) (hi : ∀ x ∈ xs, x.fIn.length ≤ 1048576) :
    Calls Try.prog 38 #[.slice A xs.length c, .slice A' xs.length c'] w fun e w' => e = .returned (.bool true) ∧ Below w.heap.size w w' := by
  have HA := hid hA
  have HA' := hid hA'
  have HI := hid hi
  clear hA hA' hi
  go_enter Try.func38, Try.ntmps38
  go_wp2_with fail
  go_loopw [5] (fun i wr => ∃ j : Nat, j ≤ xs.length ∧ i = .int .i64 j ∧ Below w.heap.size w wr) (fun i _ => xs.length - (intOf i).toNat)
  case atStart => exact ⟨0, Nat.zero_le _, rfl, Below.refl _ _⟩
  case round =>
    obtain ⟨j, hj, rfl, hbel⟩ := hrel
    by_cases hkl : j < xs.length
    · obtain ⟨b, o, A1, c1, rfl, hlt, hc0, hc1, hc2, hc3, hr⟩ := (HA.out.below hbel).atCoat hkl
      obtain ⟨b', o', A2, c2, rfl, hlt', gc0, gc1, gc2, gc3, hr'⟩ := (HA'.out.below hbel).atCoat hkl
      have HR := hid hr
      have HR' := hid hr'
      have HX := hid (HI.out xs[j] (List.getElem_mem hkl))
      have q0 : (0 : Int) ≤ (j : Int) := by omega
      have q1 : (j : Int) < xs.length := by omega
      have BW := hid hbel
      clear hbel hr hr'
      go_wp2_with fail
      go_region_held3 (fun w' => (True ∧ Below wr.heap.size wr w') ∧ w'.cell? ⟨b, o + j * 4, none⟩ = some (.string xs[j].fId) ∧ w'.cell? ⟨b, o + j * 4 + 1, none⟩ = some (.int .i64 xs[j].fDays) ∧ w'.cell? ⟨b, o + j * 4 + 2, none⟩ = some (.int .i64 xs[j].fCover) ∧ w'.cell? ⟨b, o + j * 4 + 3, none⟩ = some (.slice A1 xs[j].fIn.length c1) ∧ w'.cell? ⟨b', o' + j * 4, none⟩ = some (.string xs[j].fId) ∧ w'.cell? ⟨b', o' + j * 4 + 1, none⟩ = some (.int .i64 xs[j].fDays) ∧ w'.cell? ⟨b', o' + j * 4 + 2, none⟩ = some (.int .i64 xs[j].fCover) ∧ w'.cell? ⟨b', o' + j * 4 + 3, none⟩ = some (.slice A2 xs[j].fIn.length c2))
        (first | exact ⟨⟨trivial, (Below.refl _ _).drew⟩, hc0, hc1, hc2, hc3, gc0, gc1, gc2, gc3⟩ | exact keepM8 hlt hlt hlt hlt hlt' hlt' hlt' hlt' ‹_ ∧ _› ‹Below _ _ _›)
        ((go_at_call 103; refine (eqCoat_same xs[j] _ _ _ _ _ (HR.out.below (And.right (And.left ‹(True ∧ _) ∧ _›))) (HR'.out.below (And.right (And.left ‹(True ∧ _) ∧ _›))) HX.out).mono ?_; rintro e w6 ⟨rfl, hb6⟩))
      obtain ⟨⟨_, hB⟩, _⟩ := ‹(_ ∧ Below _ _ _) ∧ _›
      have hbel2 := below_up BW.out (by have := BW.out.size; omega) hB
      go_wp2_with fail
      go_roundw
      case rel => exact ⟨j + 1, by omega, by go_num, hbel2⟩
      case measure => simp [intOf]; omega
    · go_wp2_with fail
      go_ret
      exact ⟨rfl, hbel⟩

set_option maxHeartbeats 800000 in
theorem szCoat_ok (x : DCoat) (A : Option Addr) (c : Nat) (l : Int) (w : World) (hx : x.ok) (hA : RowsAt w 1 A (inCoat x)) (h0 : 0 ≤ l) (h1 : l ≤ 1048576) :
    Calls Try.prog 94 #[.agg #[.string x.fId, .int .i64 x.fDays, .int .i64 x.fCover, .slice A x.fIn.length c], .int .i64 l] w fun e w' => (∃ z : Int, e = .returned (.int .i64 z) ∧ -1 ≤ z ∧ z ≤ l ∧ (0 ≤ z → x.fIn.length ≤ 1048576)) ∧ Below w.heap.size w w' := by
  unfold DCoat.ok at hx
  obtain ⟨hs0, hl⟩ := hx
  have HA := hid (hA.below (below_alloc w (.cells #[.string x.fId, .int .i64 x.fDays, .int .i64 x.fCover, .slice A x.fIn.length c] 141)))
  clear hA
  go_enter Try.func94, Try.ntmps94
  go_wp2_with fail
  · go_ret
    exact ⟨⟨_, rfl, by omega, by omega, fun h => absurd h (by omega)⟩, below_alloc _ _⟩
  refine (szInt64S_ok _ _ _ _ _ hl (by omega) (by omega)).mono ?_
  rintro e w1 ⟨rfl, rfl⟩
  have hsu : -1 ≤ subSz (l - x.fId.size) x.fIn.length ∧ subSz (l - x.fId.size) x.fIn.length ≤ l - x.fId.size := by unfold subSz; split <;> omega
  go_wp2_with fail
  all_goals (go_ret; exact ⟨⟨_, rfl, by omega, by omega, fun hz => by first | exact absurd hz (by omega) | (have := subSz_le hz; omega)⟩, below_alloc _ _⟩)

set_option maxHeartbeats 1600000 in
set_option maxRecDepth 100000 in
theorem szCoatS_ok (A : Option Addr) (c : Nat) (xs : List DCoat) (l : Int) (w : World) (hA : NestAt 1 hdCoat inCoat w A xs) (hok : ∀ x ∈ xs, x.ok) (hn : xs.length ≤ 9223372036854775807) (h0 : 0 ≤ l) (h1 : l ≤ 1048576) :
    Calls Try.prog 33 #[.slice A xs.length c, .int .i64 l] w fun e w' => (∃ z : Int, e = .returned (.int .i64 z) ∧ -1 ≤ z ∧ z ≤ l ∧ (0 ≤ z → (xs.length : Int) ≤ l ∧ ∀ x ∈ xs, x.fIn.length ≤ 1048576)) ∧ Below w.heap.size w w' := by
  have HA := hid hA
  have HK := hid hok
  clear hA hok
  go_enter Try.func33, Try.ntmps33
  go_wp2_with fail
  · go_ret
    exact ⟨⟨_, rfl, by omega, by omega, fun h => absurd h (by omega)⟩, Below.refl _ _⟩
  go_loopw [1, 5] (fun l' i wr => ∃ (j : Nat) (z : Int), j ≤ xs.length ∧ i = .int .i64 j ∧ l' = .int .i64 z ∧ 0 ≤ z ∧ z ≤ l ∧ (∀ (q : Nat) (h : q < xs.length), q < j → xs[q].fIn.length ≤ 1048576) ∧ Below w.heap.size w wr) (fun _ i _ => xs.length - (intOf i).toNat)
  case atStart => exact ⟨0, _, Nat.zero_le _, rfl, rfl, by omega, by omega, fun _ _ h => absurd h (by omega), Below.refl _ _⟩
  case round =>
    obtain ⟨j, z, hj, rfl, rfl, hz0, hz1, hall, hbel⟩ := hrel
    have HL := hid hall
    clear hall
    by_cases hkl : j < xs.length
    · obtain ⟨b, o, A1, c1, rfl, hlt, hc0, hc1, hc2, hc3, hr⟩ := (HA.out.below hbel).atCoat hkl
      have HR := hid hr
      have hx := hid (HK.out xs[j] (List.getElem_mem hkl))
      have q0 : (0 : Int) ≤ (j : Int) := by omega
      have q1 : (j : Int) < xs.length := by omega
      have BW := hid hbel
      clear hr hbel
      go_wp2_with fail
      refine (szCoat_ok xs[j] _ _ z _ hx.out HR.out (by omega) (by omega)).mono ?_
      rintro e w1 ⟨⟨z1, rfl, hz2, hz3, hz4⟩, hb⟩
      have B1 := hid (below_up BW.out (by have := BW.out.size; omega) hb)
      have HZ := hid hz4
      clear hb hz4
      go_wp2_with fail
      · go_ret
        exact ⟨⟨_, rfl, by omega, by omega, fun h => absurd h (by omega)⟩, B1.out⟩
      go_roundw
      case rel =>
        refine ⟨j + 1, z1, by omega, by go_num, rfl, by omega, by omega, fun q h hq => ?_, B1.out⟩
        rcases Nat.lt_or_ge q j with h2 | h2
        · exact HL.out q h h2
        · have e : q = j := by omega
          subst e
          exact HZ.out (by omega)
      case measure => simp [intOf]; omega
    · go_wp2_with fail
      go_ret
      exact ⟨⟨_, rfl, by omega, by omega, fun _ => ⟨by omega, fun x hx => by
        obtain ⟨q, hq, rfl⟩ := List.mem_iff_getElem.1 hx
        exact HL.out q hq (by omega)⟩⟩, hbel⟩

/-- the headers of the inner slices stand from j on, and these are owned -/
def RestCoat (wr : World) (g : Nat) (xs : List DCoat) (gs : List Nat) (ys : List Value) (j : Nat) : Prop :=
  ∀ (i gi : Nat) (h : i < xs.length), j ≤ i → gs[i]? = some gi → ys[i * 4 + 3]? = some (.slice (some ⟨gi, 0, none⟩) xs[i].fIn.length xs[i].fIn.length) ∧ g < gi ∧ gi < wr.heap.size ∧ ∃ zs, wr.ownsRow gi 2 1 (.slice (some ⟨gi, 0, none⟩) xs[i].fIn.length xs[i].fIn.length) xs[i].fIn.length zs
def MarkCoat (w : World) (B E g : Nat) (xs : List DCoat) (gs : List Nat) (k0 : Int) (i m : Value) (wr : World) : Prop :=
  ∃ (j : Nat) (z : Int) (ys : List Value), j ≤ xs.length ∧ i = .int .i64 j ∧ m = .int .i64 z ∧ 0 < z ∧ z ≤ k0 + 10485760 * (j : Int) ∧ wr.ownsRow B 147 4 (.slice (some ⟨g, 0, none⟩) xs.length xs.length) xs.length ys ∧ RestCoat wr g xs gs ys j ∧ Chg B E w wr

set_option maxHeartbeats 3200000 in
set_option maxRecDepth 100000 in
theorem markCoatS_ok (g B E : Nat) (xs : List DCoat) (k0 : Int) (w : World) (hown : NestOwn w B E 147 2 1 hdCoat inCoat g xs) (hk0 : 0 < k0) (hk1 : k0 ≤ 100000000) (hn : xs.length ≤ 1048576) (hi : ∀ x ∈ xs, x.fIn.length ≤ 1048576) :
    Calls Try.prog 39 #[.slice (some ⟨g, 0, none⟩) xs.length xs.length, .int .i64 k0] w fun e w' => (∃ z : Int, e = .returned (.int .i64 z) ∧ 0 < z ∧ z ≤ k0 + 10485760 * (xs.length : Int)) ∧ Chg B E w w' := by
  obtain ⟨gs, ho, hin, hgE, hE⟩ := hown
  have hBg := (ho.lt g rfl).1
  have HE := hid hE
  have HI := hid hi
  have HGL := hid hin.1
  have HP := hid hin.2.1
  have HR0 := hid (show RestCoat w g xs gs (nestRows hdCoat inCoat xs gs).flatten 0 from fun i gi h _ hg => by
    obtain ⟨a, b, c⟩ := hin.2.2 i xs[i] gi (List.getElem?_eq_getElem h) hg
    have hrow := nestRows_at (hd := hdCoat) (inn := inCoat) (List.getElem?_eq_getElem h) hg
    rw [inCoat_length] at c
    refine ⟨?_, a, b, _, c⟩
    rw [flatten_at (nestRows_len hdCoat_length xs gs) hrow (by omega), nestRow, List.getElem?_append_right (by rw [hdCoat_length]; exact Nat.le_refl _), hdCoat_length, inCoat_length]
    rfl)
  have HO0 := hid ho
  clear ho hin hE hi
  go_enter Try.func39, Try.ntmps39
  go_wp2_with fail
  go_loopw [5, 1] (fun i m wr => MarkCoat w B E g xs gs k0 i m wr) (fun i _ _ => xs.length - (intOf i).toNat)
  case atStart => exact ⟨0, k0, _, Nat.zero_le _, rfl, rfl, hk0, by omega, HO0.out, HR0.out, Chg.refl _ _ _⟩
  case round =>
    obtain ⟨j, z, ys, hj, rfl, rfl, hz0, hz1, hown, hrest, hch⟩ := hrel
    by_cases hjl : j < xs.length
    · have O0 := hid hown
      have C0 := hid hch
      have R0 := hid hrest
      have hgj : gs[j]? = some (gs[j]'(by have := HGL.out; omega)) := List.getElem?_eq_getElem _
      obtain ⟨gj, hgj⟩ : ∃ gj, gs[j]? = some gj := ⟨_, hgj⟩
      have HG := hid hgj
      clear hown hch hrest hgj HO0 HR0
      go_wp2_with fail
      refine (markText_i _ _ (by omega) (by omega)).mono ?_
      rintro e w1 ⟨rfl, hb⟩
      have P0 := hid (own_below O0.out hb)
      have Q0 := hid (C0.out.then_below hb)
      have D0 := hid (show Chg g (g + 1) wr w1 from Chg.of_below hb)
      clear hb
      obtain ⟨u0, hold0⟩ := own_cell P0.out (q := j * 4) (by omega)
      have hfr0 := P0.out.frozenAt (j * 4)
      obtain ⟨u1, hold1⟩ := own_cell P0.out (q := j * 4 + 1) (by omega)
      have hfr1 := P0.out.frozenAt (j * 4 + 1)
      obtain ⟨u2, hold2⟩ := own_cell P0.out (q := j * 4 + 2) (by omega)
      have hfr2 := P0.out.frozenAt (j * 4 + 2)
      have O1 := hid (own_setCells [.string (markT (z).toNat), .int .i64 (z + 1), .int .i64 (z + 1 + 1)] (p := j * 4) P0.out)
      have C1 := hid (Chg.setCells hBg hgE [.string (markT (z).toNat), .int .i64 (z + 1), .int .i64 (z + 1 + 1)] (p := j * 4) Q0.out)
      have E1 := hid (Chg.setCells (Nat.le_refl g) (Nat.lt_succ_self g) [.string (markT (z).toNat), .int .i64 (z + 1), .int .i64 (z + 1 + 1)] (p := j * 4) D0.out)
      have YS := hid (show ∀ i, j ≤ i → (setSeg ys (j * 4) [.string (markT (z).toNat), .int .i64 (z + 1), .int .i64 (z + 1 + 1)])[i * 4 + 3]? = ys[i * 4 + 3]? from fun i hi => by
        simp only [setSeg]
        repeat rw [List.getElem?_set_ne (by omega)])
      have RX := hid (show RestCoat _ g xs gs (setSeg ys (j * 4) [.string (markT (z).toNat), .int .i64 (z + 1), .int .i64 (z + 1 + 1)]) j from fun i gi h hi hg => by
        obtain ⟨a, b, c, zs, d⟩ := R0.out i gi h hi hg
        exact ⟨by rw [YS.out i hi]; exact a, b, Nat.lt_of_lt_of_le c E1.out.size, zs, own_chg d E1.out (by omega)⟩)
      obtain ⟨hd1, hd2, hd3, zs, hd4⟩ := RX.out j gj hjl (Nat.le_refl _) HG.out
      have hcell := (O1.out.cellAt (j * 4 + 3) (by omega)).trans hd1
      have IN := hid hd4
      have HX := hid (HI.out xs[j] (List.getElem_mem hjl))
      have hgjE := HE.out j gj HG.out
      have hxl := HX.out
      clear hd1 hd4
      simp only [setCells] at hcell
      go_wp2_with fail
      have ho5 := IN.out
      have hzl : zs.length = xs[j].fIn.length := by have := ho5.1; omega
      refine (markInt64R_ok _ _ gj (gj + 1) _ zs _ _ ho5 (fun g' hg' => by have e : gj = g' := (by simpa [Value.ownBlock] using hg'); omega) (by omega) (by omega) (by omega)).mono ?_
      rintro e w9 ⟨⟨z9, rfl, hz9, hy9⟩, hq⟩
      have O9 := hid (own_low (E := g + 1) O1.out (fun g' hg' => by have e : g = g' := (by simpa [Value.ownBlock] using hg'); omega) hq (by omega))
      have C9 := hid (C1.out.trans (hq.wide (l' := B) (h' := E) (by omega) (by omega)))
      have R9 := hid (show RestCoat w9 g xs gs (setSeg ys (j * 4) [.string (markT (z).toNat), .int .i64 (z + 1), .int .i64 (z + 1 + 1)]) (j + 1) from fun i gi h hi hg => by
        obtain ⟨a, b, c, zs', d⟩ := RX.out i gi h (by omega) hg
        have hlt : gj < gi := by
          have hp := HP.out
          rw [List.pairwise_iff_getElem] at hp
          have h1 := List.getElem?_eq_some_iff.1 HG.out
          have h2 := List.getElem?_eq_some_iff.1 hg
          obtain ⟨l1, e1⟩ := h1
          obtain ⟨l2, e2⟩ := h2
          have := hp j i l1 l2 (by omega)
          rw [e1, e2] at this
          exact this
        exact ⟨a, b, Nat.lt_of_lt_of_le c hq.size, zs', own_chg d hq (by omega)⟩)
      clear hcell hq
      go_wp2_with fail
      go_roundw
      case rel => exact ⟨j + 1, z9, _, by omega, by go_num, rfl, by omega, by omega, O9.out, R9.out, C9.out⟩
      case measure => simp [intOf]; omega
    · have HC := hid hch
      clear hown hch hrest
      go_wp2_with fail
      go_ret
      exact ⟨⟨_, rfl, by omega, by omega⟩, HC.out⟩

end Go.Proofs.Ytdbjbkdcmhekfaa
