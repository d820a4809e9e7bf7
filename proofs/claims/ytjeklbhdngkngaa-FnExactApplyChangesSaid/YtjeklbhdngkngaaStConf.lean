/- States: impl's namesOf and conflicts. -/
import Derived.Test.YtjeklbhdngkngaaStVal
import Derived.Test.YtjeklbhdngkngaaSorted
import Derived.Test.YtjeklbhdngkngaaDelMath
namespace Go.Proofs.Ytjeklbhdngkngaa
open Go.RowKit
set_option linter.unusedVariables false

theorem zeros_str (n : Nat) : (Builtin.zeroCells (Value.string ⟨#[]⟩).cells n).toList = List.replicate n (Value.string ⟨#[]⟩) := by
  have h := made_one (Value.string ⟨#[]⟩) n rfl
  have e : Builtin.zeroCells (Value.string ⟨#[]⟩).cells n = madeCells (Value.string ⟨#[]⟩).cells (n * 1) := rfl
  rw [e, h]

def allN (l : List DSetting) : List Str := namesN (stN l) l.length
/-- the names of the first i states -/
def allsN (ls : List (List DSetting)) : Nat → List Str
  | 0 => []
  | i + 1 => allsN ls i ++ (match ls[i]? with | some l => allN l | none => [])
theorem allsN_succ {ls : List (List DSetting)} {i : Nat} (h : i < ls.length) : allsN ls (i + 1) = allsN ls i ++ allN ls[i] := by simp only [allsN, List.getElem?_eq_getElem h]
theorem allN_len (l : List DSetting) : (allN l).length ≤ l.length := by
  have := namesN_len (stN_len l) l.length
  unfold allN
  omega
theorem allsN_len {ls : List (List DSetting)} (h : ∀ l ∈ ls, l.length ≤ 24) : ∀ i, i ≤ ls.length → (allsN ls i).length ≤ 24 * i
  | 0, _ => by simp [allsN]
  | i + 1, hi => by
    have h1 := allsN_len h i (by omega)
    have h2 := allN_len ls[i]
    have h3 := h ls[i] (List.getElem_mem (by omega))
    rw [allsN_succ (by omega), List.length_append]
    omega
/-- a block of states -/
def StatesAt (w : World) (G : Nat) (ls : List (List DSetting)) : Prop := G < w.heap.size ∧ ∀ (i : Nat) (l : List DSetting), ls[i]? = some l → ∃ A c, w.cell? ⟨G, i, none⟩ = some (.slice A l.length c) ∧ RowsAt w 2 A (l.map DSetting.cells)

set_option maxHeartbeats 1600000 in
set_option maxRecDepth 100000 in
theorem namesOf_ok (G cG : Nat) (ls : List (List DSetting)) (w : World) (hG : StatesAt w G ls) (h24 : ∀ l ∈ ls, l.length ≤ 24) (h3 : ls.length ≤ 3) :
    Calls Try.prog 67 #[.slice (some ⟨G, 0, none⟩) ls.length cG] w fun e w' => (∃ g c', e = .returned (.slice (some ⟨g, 0, none⟩) (setOf (allsN ls ls.length)).length c') ∧ w'.ownsRow w.heap.size 9 1 (.slice (some ⟨g, 0, none⟩) (setOf (allsN ls ls.length)).length c') (setOf (allsN ls ls.length)).length ((setOf (allsN ls ls.length)).map vS)) ∧ Below w.heap.size w w' := by
  have HG := hid hG
  have H24 := hid h24
  clear hG h24
  go_enter Try.func67, Try.ntmps67
  go_wp2_with fail
  go_loopw [3, 11] (fun v m wr => ∃ (i g cc : Nat), i ≤ ls.length ∧ m = .int .i64 i ∧ v = .slice (some ⟨g, 0, none⟩) (allsN ls i).length cc ∧ wr.ownsRow w.heap.size 9 1 (.slice (some ⟨g, 0, none⟩) (allsN ls i).length cc) (allsN ls i).length ((allsN ls i).map vS) ∧ Below w.heap.size w wr) (fun _ m _ => ls.length - (intOf m).toNat)
  case atStart => exact ⟨0, _, _, Nat.zero_le _, rfl, rfl, World.ownsRow_lit _ _ 0 (Nat.le_refl _) (by unfold maxLen; omega) rfl, below_alloc _ _⟩
  case round =>
    obtain ⟨i, g, cc, hi, rfl, rfl, hown, hbel⟩ := hrel
    have HO := hid hown
    have HB := hid hbel
    clear hown hbel
    have hal := allsN_len H24.out i hi
    by_cases hil : i < ls.length
    · obtain ⟨A, c, hcell0, hrows⟩ := HG.out.2 i ls[i] (List.getElem?_eq_getElem hil)
      have hxl := H24.out ls[i] (List.getElem_mem hil)
      have HE2 := hid (allsN_succ hil)
      obtain ⟨xs, hxs⟩ : ∃ xs, xs = ls[i] := ⟨_, rfl⟩
      rw [← hxs] at hcell0 hrows hxl HE2
      obtain ⟨ns, hns⟩ : ∃ ns, ns = allsN ls i := ⟨_, rfl⟩
      rw [← hns] at hal HE2 HO
      rw [← hns]
      clear hxs hns
      have hcell := (HB.out.cell (p := ⟨G, i, none⟩) HG.out.1).trans hcell0
      have HA := hid hrows
      have p0 : (0 : Int) ≤ (i : Int) := by omega
      have p1 : (i : Int) < ls.length := by omega
      clear hcell0 hrows
      rename World => wo
      go_wp2_with fail
      go_loopw [3, 17] (fun v m wr => ∃ (k g cc : Nat), k ≤ xs.length ∧ m = .int .i64 k ∧ v = .slice (some ⟨g, 0, none⟩) (ns ++ namesN (stN xs) k).length cc ∧ wr.ownsRow w.heap.size 9 1 (.slice (some ⟨g, 0, none⟩) (ns ++ namesN (stN xs) k).length cc) (ns ++ namesN (stN xs) k).length ((ns ++ namesN (stN xs) k).map vS) ∧ Below w.heap.size w wr) (fun _ m _ => xs.length - (intOf m).toNat)
      case atStart => exact ⟨0, g, cc, Nat.zero_le _, rfl, by rw [namesN, List.append_nil], by rw [namesN, List.append_nil]; exact HO.out, HB.out⟩
      case round =>
        obtain ⟨k, g, cc, hk, rfl, rfl, hown, hbel⟩ := hrel
        have HO := hid hown
        have HB := hid hbel
        have hnl : (namesN (stN xs) k).length ≤ 1 * k := namesN_len (stN_len xs) k
        have hL : (ns ++ namesN (stN xs) k).length ≤ 200 := by rw [List.length_append]; omega
        clear hown hbel
        by_cases hkl : k < xs.length
        · have hne : xs.map DSetting.cells ≠ [] := by intro e; rw [List.map_eq_nil_iff] at e; rw [e] at hkl; exact absurd hkl (by simp)
          obtain ⟨b, o, rfl, hlt, hc⟩ := (HA.out.below HB.out) hne
          have HC := hid hc
          have hc0 : wr.cell? ⟨b, o + k * 2, none⟩ = some (.string xs[k].fName) := HC.out k _ (by rw [List.getElem?_map, List.getElem?_eq_getElem hkl]; rfl) 0 _ rfl
          have hc1 : wr.cell? ⟨b, o + k * 2 + 1, none⟩ = some (.int .i64 xs[k].fValue) := HC.out k _ (by rw [List.getElem?_map, List.getElem?_eq_getElem hkl]; rfl) 1 _ rfl
          have q0 : (0 : Int) ≤ (k : Int) := by omega
          have q1 : (k : Int) < xs.length := by omega
          clear hc hne
          have NC := hid (HasC.new wr [.string xs[k].fName, .int .i64 xs[k].fValue] 95)
          have n0 := NC.out.2 0 _ rfl
          have O5 := hid (HO.out.alloc (.cells #[.string xs[k].fName, .int .i64 xs[k].fValue] 95))
          have B5 := hid (HB.out.alloc HB.out.size (.cells #[.string xs[k].fName, .int .i64 xs[k].fValue] 95))
          have HE := hid (show (ns ++ namesN (stN xs) k).map vS ++ [.string xs[k].fName] = (ns ++ namesN (stN xs) (k + 1)).map vS by
            rw [namesN, stN_at hkl]
            simp only [List.map_append, List.map_cons, List.map_nil, vS_data, List.append_assoc])
          have LE := hid (show (ns ++ namesN (stN xs) k).length + 1 = (ns ++ namesN (stN xs) (k + 1)).length by
            rw [namesN, stN_at hkl]
            simp only [List.length_append, List.length_cons, List.length_nil]
            omega)
          go_wp2_with (at_builtin; refine wpList_app (w0 := w) rfl (.tmp 21) (.tmp 24) 57 rfl w.heap.size 9 (.string ⟨#[]⟩) 1 16 Try.underlying57 infoStr rfl (by decide) _ _ _ rfl O5.out #[.string xs[k].fName] 1 1 (by simp [Act.eval]) rfl (by simp [Value.oneCell']) (by omega) B5.out.size B5.out ?_; intro v1 w6 hown1 hbel1 hz1 _; obtain ⟨g6, c6, rfl, hf6⟩ := own_form hown1 (by omega))
          go_roundw
          case rel => exact ⟨k + 1, g6, c6, by omega, by go_num, by rw [← LE.out]; first | done | rw [List.length_append], by rw [← HE.out, ← LE.out]; exact hown1, hbel1⟩
          case measure => simp [intOf]; omega
        · have hk2 : k = xs.length := by omega
          subst hk2
          have HE3 := hid (show allsN ls (i + 1) = ns ++ namesN (stN xs) xs.length from HE2.out)
          go_wp2_with fail
          go_roundw
          case rel => exact ⟨i + 1, g, cc, by omega, by go_num, by rw [HE3.out], by rw [HE3.out]; exact HO.out, HB.out⟩
          case measure => simp [intOf]; omega
    · have hk2 : i = ls.length := by omega
      subst hk2
      go_wp2_with (go_at_call 129; refine (sortedSet_ok g cc _ w _ HO.out HB.out (by omega)).mono ?_; rintro e w7 ⟨rfl, ho7, hb7⟩)
      go_ret
      exact ⟨⟨g, cc, rfl, ho7⟩, hb7⟩
/-- two of the three agree -/
def confP (rs ss ts : List DSetting) (z : Str) : Bool := valN ss z == valN ts z || valN ss z == valN rs z || valN ts z == valN rs z

set_option maxHeartbeats 1600000 in
set_option maxRecDepth 100000 in
theorem confClo_ok (z : Str) (A0 : Option Addr) (c0 b0 : Nat) (rs : List DSetting) (A1 : Option Addr) (c1 b1 : Nat) (ss : List DSetting) (A2 : Option Addr) (c2 b2 : Nat) (ts : List DSetting) (w : World) (hA0 : RowsAt w 2 A0 (rs.map DSetting.cells)) (hs0 : StateTo rs rs.length) (hn0 : rs.length ≤ 24) (hA1 : RowsAt w 2 A1 (ss.map DSetting.cells)) (hs1 : StateTo ss ss.length) (hn1 : ss.length ≤ 24) (hA2 : RowsAt w 2 A2 (ts.map DSetting.cells)) (hs2 : StateTo ts ts.length) (hn2 : ts.length ≤ 24) (k0 : w.cell? ⟨b0, 0, none⟩ = some (.slice A0 rs.length c0)) (k1 : w.cell? ⟨b1, 0, none⟩ = some (.slice A1 ss.length c1)) (k2 : w.cell? ⟨b2, 0, none⟩ = some (.slice A2 ts.length c2)) :
    Calls Try.prog 128 #[.string (tB z), .pointer (some ⟨b1, 0, none⟩), .pointer (some ⟨b2, 0, none⟩), .pointer (some ⟨b0, 0, none⟩)] w fun e w' => e = .returned (.bool (confP rs ss ts z)) ∧ Below w.heap.size w w' := by
  have HA0 := hid (show ∀ n, RowsAt (w.drewN n) 2 A0 (rs.map DSetting.cells) from fun _ => hA0)
  have HA1 := hid (show ∀ n, RowsAt (w.drewN n) 2 A1 (ss.map DSetting.cells) from fun _ => hA1)
  have HA2 := hid (show ∀ n, RowsAt (w.drewN n) 2 A2 (ts.map DSetting.cells) from fun _ => hA2)
  have HS0 := hid hs0
  have HS1 := hid hs1
  have HS2 := hid hs2
  have HR := hid (show confP rs ss ts z = (valN ss z == valN ts z || valN ss z == valN rs z || valN ts z == valN rs z) from rfl)
  clear hA0 hA1 hA2 hs0 hs1 hs2
  go_enter Try.func128, Try.ntmps128
  go_wp2_with fail
  go_quiet (first | (go_at_call 68; with_reducible exact quiet_more (value_ok A0 c0 rs _ _ (HA0.out _) HS0.out hn0)) | (go_at_call 68; with_reducible exact quiet_more (value_ok A1 c1 ss _ _ (HA1.out _) HS1.out hn1)) | (go_at_call 68; with_reducible exact quiet_more (value_ok A2 c2 ts _ _ (HA2.out _) HS2.out hn2)))
  rw [show (tB z).data.toList = z from rfl]
  cases d1 : (valN ss z == valN ts z)
  · cases d2 : (valN ss z == valN rs z)
    · cases d3 : (valN ts z == valN rs z)
      all_goals
        go_wp2_with fail
        go_ret
        exact ⟨ret_bool (by rw [HR.out, d1, d2, d3]; first | done | rfl), below_drewN' (Below.refl _ _) _⟩
    · go_wp2_with fail
      go_ret
      exact ⟨ret_bool (by rw [HR.out, d1, d2]; first | done | rfl), below_drewN' (Below.refl _ _) _⟩
  · go_wp2_with fail
    go_ret
    exact ⟨ret_bool (by rw [HR.out, d1]; first | done | rfl), below_drewN' (Below.refl _ _) _⟩

set_option maxHeartbeats 1600000 in
set_option maxRecDepth 100000 in
theorem idxConf_ok (g c B : Nat) (xs : List Str) (p : Str → Bool) (b1 b2 b0 : Nat) (w0 w : World) (hown : w.ownsRow B 9 1 (.slice (some ⟨g, 0, none⟩) xs.length c) xs.length (xs.map vS)) (hw : Below B w0 w) (hB : B ≤ w.heap.size) (hclo : ∀ (x : Str) (w' : World), Below B w0 w' → Calls Try.prog 128 #[.string (tB x), .pointer (some ⟨b1, 0, none⟩), .pointer (some ⟨b2, 0, none⟩), .pointer (some ⟨b0, 0, none⟩)] w' fun e w'' => e = .returned (.bool (p x)) ∧ Below w'.heap.size w' w'') (hn : xs.length ≤ 100000) :
    Calls Try.prog 144 #[.slice (some ⟨g, 0, none⟩) xs.length c, .func (.func 128) #[] #[.pointer (some ⟨b1, 0, none⟩), .pointer (some ⟨b2, 0, none⟩), .pointer (some ⟨b0, 0, none⟩)]] w fun e w' => (∃ r : Int, e = .returned (.int .i64 r) ∧ ((r = -1 ∧ ∀ j (h : j < xs.length), p xs[j] = false) ∨ (∃ i : Nat, r = (i : Int) ∧ ∃ hi : i < xs.length, (∀ j (h : j < xs.length), j < i → p xs[j] = false) ∧ p xs[i] = true))) ∧ Below w.heap.size w w' := by
  have HO0 := hid hown
  have HW := hid hw
  have HCL := hid hclo
  clear hown hw hclo
  go_enter Try.func144, Try.ntmps144
  go_wp2_with fail
  go_loopw [8] (fun i wr => ∃ k : Nat, k ≤ xs.length ∧ i = .int .i64 k ∧ (∀ j (h : j < xs.length), j < k → p xs[j] = false) ∧ Below w.heap.size w wr) (fun i _ => xs.length - (intOf i).toNat)
  case atStart => exact ⟨0, Nat.zero_le _, rfl, fun _ _ h => absurd h (by omega), Below.refl _ _⟩
  case round =>
    obtain ⟨k, hk, rfl, hall, hbel⟩ := hrel
    have HL := hid hall
    have HB := hid hbel
    clear hall hbel
    by_cases hkl : k < xs.length
    · have HO := hid (own_below HO0.out HB.out)
      have k0 : wr.cell? ⟨g, k, none⟩ = some (.string (tB xs[k])) := by
        rw [HO.out.cellAt k (by omega), List.getElem?_map, List.getElem?_eq_getElem hkl]
        rfl
      have q0 : (0 : Int) ≤ (k : Int) := by omega
      have q1 : (k : Int) < xs.length := by omega
      have HB2 := hid (below_up HW.out hB HB.out)
      cases d : p xs[k]
      · have HS := hid (show ∀ j (h : j < xs.length), j < k + 1 → p xs[j] = false from fun j h hj => by
          rcases Nat.lt_or_ge j k with h3 | h3
          · exact HL.out j h h3
          · have e : j = k := by omega
            subst e; exact d)
        have D := hid d
        clear d
        go_wp2_with (go_at_call 128; refine (HCL.out xs[k] _ HB2.out).mono ?_; rintro e w5 ⟨rfl, hb5⟩; rw [D.out])
        go_roundw
        case rel => exact ⟨k + 1, by omega, by go_num, HS.out, below_trans HB.out hb5⟩
        case measure => simp [intOf]; omega
      · have D := hid d
        clear d
        go_wp2_with (go_at_call 128; refine (HCL.out xs[k] _ HB2.out).mono ?_; rintro e w5 ⟨rfl, hb5⟩; rw [D.out])
        go_ret
        exact ⟨⟨_, rfl, .inr ⟨k, rfl, hkl, HL.out, D.out⟩⟩, below_trans HB.out hb5⟩
    · go_wp2_with fail
      go_ret
      exact ⟨⟨_, rfl, .inl ⟨rfl, fun j h => HL.out j h (by omega)⟩⟩, HB.out⟩

set_option maxHeartbeats 1600000 in
set_option maxRecDepth 100000 in
theorem delConf_ok (g c B : Nat) (xs : List Str) (p : Str → Bool) (b1 b2 b0 : Nat) (w0 w : World) (hown : w.ownsRow B 9 1 (.slice (some ⟨g, 0, none⟩) xs.length c) xs.length (xs.map vS)) (hw : Below B w0 w) (hB : B ≤ w.heap.size) (hclo : ∀ (x : Str) (w' : World), Below B w0 w' → Calls Try.prog 128 #[.string (tB x), .pointer (some ⟨b1, 0, none⟩), .pointer (some ⟨b2, 0, none⟩), .pointer (some ⟨b0, 0, none⟩)] w' fun e w'' => e = .returned (.bool (p x)) ∧ Below w'.heap.size w' w'') (hn : xs.length ≤ 100000) :
    Calls Try.prog 112 #[.slice (some ⟨g, 0, none⟩) xs.length c, .func (.func 128) #[] #[.pointer (some ⟨b1, 0, none⟩), .pointer (some ⟨b2, 0, none⟩), .pointer (some ⟨b0, 0, none⟩)]] w fun e w' => e = .returned (.slice (some ⟨g, 0, none⟩) (xs.filter (fun x => !p x)).length c) ∧ w'.ownsRow B 9 1 (.slice (some ⟨g, 0, none⟩) (xs.filter (fun x => !p x)).length c) (xs.filter (fun x => !p x)).length ((xs.filter (fun x => !p x)).map vS) ∧ Below B w w' := by
  obtain ⟨hlc, hcm, hBg, hg⟩ := own_cap hown
  have hc3 : c ≤ 9223372036854775807 := by unfold maxLen at hcm; omega
  have HO0 := hid hown
  have HW := hid hw
  have HCL := hid hclo
  clear hown hw hclo hcm
  go_enter Try.func112, Try.ntmps112
  go_wp2_with fail
  refine (idxConf_ok g c B xs p b1 b2 b0 w0 w HO0.out HW.out hB HCL.out hn).mono ?_
  rintro e w1 ⟨⟨r, rfl, hr⟩, hb⟩
  have B1 := hid hb
  clear hb
  rcases hr with ⟨rfl, hall⟩ | ⟨i0, rfl, hi, hpre, hp⟩
  · have HFL := hid (filter_all hall)
    clear hall
    go_wp2_with fail
    go_ret
    exact ⟨by rw [HFL.out]; first | done | rfl, by rw [HFL.out]; exact own_below HO0.out B1.out, B1.out.mono hB⟩
  have HI0 := hid (DelInv.start hi hpre hp)
  have e1 : ((i0 : Int) == -1) = false := by rw [beq_eq_false_iff_ne]; omega
  clear hpre hp
  go_wp2_with fail
  go_loopw [5, 6] (fun vi vj wr => ∃ (ii jj : Nat) (ys : List Str), vi = .int .i64 ii ∧ vj = .int .i64 jj ∧ DelInv p xs ys jj ii ∧ wr.ownsRow B 9 1 (.slice (some ⟨g, 0, none⟩) xs.length c) xs.length (ys.map vS) ∧ Below B w wr) (fun _ vj _ => xs.length - (intOf vj).toNat)
  case atStart => exact ⟨i0, i0 + 1, xs, rfl, by go_num, HI0.out, own_below HO0.out B1.out, B1.out.mono hB⟩
  case round =>
    obtain ⟨ii, jj, ys, rfl, rfl, hinv, hown, hbel⟩ := hrel
    have HI := hid hinv
    have HO := hid hown
    have HB := hid hbel
    have hBw : B ≤ wr.heap.size := by have := hbel.size; omega
    have hij := hinv.le
    have hjx := hinv.jle
    have hyl := hid hinv.len
    clear hinv hown hbel
    have q0 : (0 : Int) ≤ (jj : Int) := by omega
    have q2 : (0 : Int) ≤ (ii : Int) := by omega
    have q3 : (ii : Int) < xs.length := by omega
    by_cases hjl : jj < xs.length
    · have q1 : (jj : Int) < xs.length := by omega
      have HY := hid (HI.out.at hjl)
      have k0 : wr.cell? ⟨g, jj, none⟩ = some (.string (tB xs[jj])) := by
        rw [HO.out.cellAt jj (by omega), List.getElem?_map, HY.out]
        rfl
      have HB2 := hid (HW.out.trans HB.out)
      cases d : p xs[jj]
      · have HK := hid (HI.out.keep hjl d)
        have D := hid d
        clear d
        go_wp2_with (go_at_call 128; refine (HCL.out xs[jj] _ HB2.out).mono ?_; rintro e w5 ⟨rfl, hb5⟩; rw [D.out]; have O5 := hid (own_below HO.out hb5); obtain ⟨u0, hold0⟩ := own_cell O5.out (q := ii) (by omega); have hfr0 := O5.out.frozenAt ii; have HS := hid (O5.out.stored ii (.string (tB xs[jj]))).1; have B5 := hid (below_up HB.out hBw hb5); clear hb5)
        go_roundw
        case rel =>
          refine ⟨ii + 1, jj + 1, ys.set ii xs[jj], by go_num, by go_num, HK.out, ?_, (B5.out.setCell (p := ⟨g, ii, none⟩) hBg _)⟩
          · have e := HS.out
            rw [show Value.string (tB xs[jj]) = vS xs[jj] from rfl, ← List.map_set (f := vS)] at e
            exact e
        case measure => simp [intOf]; omega
      · have HK := hid (HI.out.skip hjl d)
        have D := hid d
        clear d
        go_wp2_with (go_at_call 128; refine (HCL.out xs[jj] _ HB2.out).mono ?_; rintro e w5 ⟨rfl, hb5⟩; rw [D.out]; have O5 := hid (own_below HO.out hb5); have B5 := hid (below_up HB.out hBw hb5))
        go_roundw
        case rel => exact ⟨ii, jj + 1, ys, rfl, by go_num, HK.out, O5.out, B5.out⟩
        case measure => simp [intOf]; omega
    · have hj2 := hid (show jj = xs.length by omega)
      have HD := hid (HI.out.done hj2.out)
      have hic : ¬ (ii = c) := by omega
      have hic2 : ¬ (c = ii) := by omega
      have q4 : (ii : Int) ≤ xs.length := by omega
      have q5 : (ii : Int) ≤ c := by omega
      have hzl : ((List.replicate (xs.length - ii) (Value.string ⟨#[]⟩))).length = (xs.length - ii) * 1 := by simp
      have HZL := hid hzl
      have hcl : ∀ ty, (Builtin.clear_ #[57] ty #[.slice (some ⟨g, ii, none⟩) (xs.length - ii) (c - ii)]).run Try.prog wr = .ok (.tuple #[]) (wr.setCells g (ii) (List.replicate (xs.length - ii) (Value.string ⟨#[]⟩))) := fun ty =>
        run_clear_rows wr 57 9 ty (Value.string ⟨#[]⟩) Try.underlying57 (fun _ => by kernel_rfl) g (ii) (xs.length - ii) (c - ii) (by omega) _ (by rw [zeros_str]) (fun u hu => by
          rw [List.eq_of_mem_replicate hu]; rfl)
          (fun j hj => by rw [HZL.out] at hj; obtain ⟨u, hu⟩ := own_cell HO.out (q := ii + j) (by omega); rw [hu]; rfl)
          (fun j _ => HO.out.frozenAt _)
      have HF := hid (own_shrink (own_wsetCells (List.replicate (xs.length - ii) (Value.string ⟨#[]⟩)) (p := ii) HO.out) (m := ii) (by omega))
      have HBF := hid (below_wsetCells hBg (List.replicate (xs.length - ii) (Value.string ⟨#[]⟩)) (p := ii) HB.out)
      clear hzl
      go_wp2_with fail
      go_ret
      have hd2 := HD.out.2
      refine ⟨by rw [← hd2]; first | done | rfl, ?_, HBF.out⟩
      have e := HF.out
      rw [setSeg_head _ _ (show ii * 1 ≤ ii by omega)] at e
      have e3 : ((ys.map vS)).take (ii * 1) = ((xs.filter (fun x => !p x)).map vS) := by
        rw [← HD.out.1]
        rw [Nat.mul_one, List.map_take]
      rw [e3] at e
      rw [← hd2]
      exact e

/-- the names in conflict -/
def confN (rs ss ts : List DSetting) : List Str := (setOf (allsN [rs, ss, ts] 3)).filter (fun z => !confP rs ss ts z)
theorem confN_len {rs ss ts : List DSetting} (h0 : rs.length ≤ 24) (h1 : ss.length ≤ 24) (h2 : ts.length ≤ 24) : (setOf (allsN [rs, ss, ts] 3)).length ≤ 72 ∧ (confN rs ss ts).length ≤ 72 := by
  have h3 := allsN_len (ls := [rs, ss, ts]) (fun l hl => by simp only [List.mem_cons, List.not_mem_nil, or_false] at hl; rcases hl with rfl | rfl | rfl <;> assumption) 3 (Nat.le_refl _)
  have h4 := setOf_len (allsN [rs, ss, ts] 3)
  have h5 : (confN rs ss ts).length ≤ (setOf (allsN [rs, ss, ts] 3)).length := List.length_filter_le _ _
  omega

set_option maxHeartbeats 1600000 in
set_option maxRecDepth 100000 in
theorem conflicts_ok (A0 : Option Addr) (c0 : Nat) (rs : List DSetting) (A1 : Option Addr) (c1 : Nat) (ss : List DSetting) (A2 : Option Addr) (c2 : Nat) (ts : List DSetting) (w : World) (hA0 : RowsAt w 2 A0 (rs.map DSetting.cells)) (hs0 : StateTo rs rs.length) (hn0 : rs.length ≤ 24) (hA1 : RowsAt w 2 A1 (ss.map DSetting.cells)) (hs1 : StateTo ss ss.length) (hn1 : ss.length ≤ 24) (hA2 : RowsAt w 2 A2 (ts.map DSetting.cells)) (hs2 : StateTo ts ts.length) (hn2 : ts.length ≤ 24) :
    Calls Try.prog 66 #[.slice A0 rs.length c0, .slice A1 ss.length c1, .slice A2 ts.length c2] w fun e w' => (∃ g c', e = .returned (.slice (some ⟨g, 0, none⟩) (confN rs ss ts).length c') ∧ w'.ownsRow w.heap.size 9 1 (.slice (some ⟨g, 0, none⟩) (confN rs ss ts).length c') (confN rs ss ts).length ((confN rs ss ts).map vS)) ∧ Below w.heap.size w w' := by
  have hmf : ∀ (fn : Fn) (first cap : Array Value) (w : World), (Instr.makeFunc fn first cap).run Try.prog w = .ok (.func fn first cap) w := fun _ _ _ _ => rfl
  have z3 : (((w.alloc (.cells #[.slice A0 rs.length c0] 24)).alloc (.cells #[.slice A1 ss.length c1] 24)).alloc (.cells #[.slice A2 ts.length c2] 24)).heap.size = w.heap.size + 3 := by simp
  have z4 : ((((w.alloc (.cells #[.slice A0 rs.length c0] 24)).alloc (.cells #[.slice A1 ss.length c1] 24)).alloc (.cells #[.slice A2 ts.length c2] 24)).alloc (.cells #[.slice A0 rs.length c0, .slice A1 ss.length c1, .slice A2 ts.length c2] 24)).heap.size = w.heap.size + 4 := by simp
  have b1 : Below w.heap.size w (w.alloc (.cells #[.slice A0 rs.length c0] 24)) := below_alloc w _
  have b2 : Below w.heap.size w ((w.alloc (.cells #[.slice A0 rs.length c0] 24)).alloc (.cells #[.slice A1 ss.length c1] 24)) := b1.trans ((below_alloc _ _).mono (by first | (simp; done) | (simp; omega)))
  have b3 : Below w.heap.size w (((w.alloc (.cells #[.slice A0 rs.length c0] 24)).alloc (.cells #[.slice A1 ss.length c1] 24)).alloc (.cells #[.slice A2 ts.length c2] 24)) := b2.trans ((below_alloc _ _).mono (by first | (simp; done) | (simp; omega)))
  have B4 := hid (show Below w.heap.size w ((((w.alloc (.cells #[.slice A0 rs.length c0] 24)).alloc (.cells #[.slice A1 ss.length c1] 24)).alloc (.cells #[.slice A2 ts.length c2] 24)).alloc (.cells #[.slice A0 rs.length c0, .slice A1 ss.length c1, .slice A2 ts.length c2] 24)) from b3.trans ((below_alloc _ _).mono (by first | (simp; done) | (simp; omega))))
  have N0 := (((HasC.new w [.slice A0 rs.length c0] 24).below (below_alloc _ (.cells #[.slice A1 ss.length c1] 24))).below (below_alloc _ (.cells #[.slice A2 ts.length c2] 24))).below (below_alloc _ (.cells #[.slice A0 rs.length c0, .slice A1 ss.length c1, .slice A2 ts.length c2] 24))
  have N1 := ((HasC.new (w.alloc (.cells #[.slice A0 rs.length c0] 24)) [.slice A1 ss.length c1] 24).below (below_alloc _ (.cells #[.slice A2 ts.length c2] 24))).below (below_alloc _ (.cells #[.slice A0 rs.length c0, .slice A1 ss.length c1, .slice A2 ts.length c2] 24))
  have N2 := (HasC.new ((w.alloc (.cells #[.slice A0 rs.length c0] 24)).alloc (.cells #[.slice A1 ss.length c1] 24)) [.slice A2 ts.length c2] 24).below (below_alloc _ (.cells #[.slice A0 rs.length c0, .slice A1 ss.length c1, .slice A2 ts.length c2] 24))
  have N3 := HasC.new (((w.alloc (.cells #[.slice A0 rs.length c0] 24)).alloc (.cells #[.slice A1 ss.length c1] 24)).alloc (.cells #[.slice A2 ts.length c2] 24)) [.slice A0 rs.length c0, .slice A1 ss.length c1, .slice A2 ts.length c2] 24
  rw [show (w.alloc (.cells #[.slice A0 rs.length c0] 24)).heap.size = w.heap.size + 1 by simp] at N1
  rw [show ((w.alloc (.cells #[.slice A0 rs.length c0] 24)).alloc (.cells #[.slice A1 ss.length c1] 24)).heap.size = w.heap.size + 2 by simp] at N2
  rw [z3] at N3
  have HG := hid (show StatesAt ((((w.alloc (.cells #[.slice A0 rs.length c0] 24)).alloc (.cells #[.slice A1 ss.length c1] 24)).alloc (.cells #[.slice A2 ts.length c2] 24)).alloc (.cells #[.slice A0 rs.length c0, .slice A1 ss.length c1, .slice A2 ts.length c2] 24)) (w.heap.size + 3) [rs, ss, ts] from ⟨N3.1, fun i l h => by
    match i, h with
    | 0, h => cases h; exact ⟨A0, c0, N3.2 0 _ rfl, hA0.below B4.out⟩
    | 1, h => cases h; exact ⟨A1, c1, N3.2 1 _ rfl, hA1.below B4.out⟩
    | 2, h => cases h; exact ⟨A2, c2, N3.2 2 _ rfl, hA2.below B4.out⟩
    | n + 3, h => simp at h⟩)
  have M0 := hid N0
  have M1 := hid N1
  have M2 := hid N2
  have HA0 := hid hA0
  have HA1 := hid hA1
  have HA2 := hid hA2
  have HS0 := hid hs0
  have HS1 := hid hs1
  have HS2 := hid hs2
  have hcl := confN_len hn0 hn1 hn2
  clear b1 b2 b3 N0 N1 N2 N3 z3 hA0 hA1 hA2 hs0 hs1 hs2
  have H24 := hid (show ∀ l ∈ [rs, ss, ts], l.length ≤ 24 from fun l hl => by simp only [List.mem_cons, List.not_mem_nil, or_false] at hl; rcases hl with rfl | rfl | rfl <;> assumption)
  have Z4 := hid z4
  clear z4
  go_enter Try.func66, Try.ntmps66
  go_wp2_with fail
  refine (namesOf_ok (w.heap.size + 3) 3 [rs, ss, ts] ((((w.alloc (.cells #[.slice A0 rs.length c0] 24)).alloc (.cells #[.slice A1 ss.length c1] 24)).alloc (.cells #[.slice A2 ts.length c2] 24)).alloc (.cells #[.slice A0 rs.length c0, .slice A1 ss.length c1, .slice A2 ts.length c2] 24)) HG.out H24.out (Nat.le_refl _)).mono ?_
  rintro e w5 ⟨⟨g, c', rfl, ho⟩, hb⟩
  rw [Z4.out] at ho hb
  have O5 := hid ho
  have B5 := hid hb
  have hz5 := hb.size
  rw [Z4.out] at hz5
  clear ho hb
  have HCLO := hid (show ∀ (x : Str) (w' : World), Below (w.heap.size + 4) w5 w' → Calls Try.prog 128 #[.string (tB x), .pointer (some ⟨w.heap.size + 1, 0, none⟩), .pointer (some ⟨w.heap.size + 2, 0, none⟩), .pointer (some ⟨w.heap.size, 0, none⟩)] w' fun e w'' => e = .returned (.bool (confP rs ss ts x)) ∧ Below w'.heap.size w' w'' from fun x w' hw => by
    have hB : Below w.heap.size w w' := (B4.out.trans (B5.out.mono (by omega))).trans (hw.mono (by omega))
    have hB4 : Below (w.heap.size + 4) ((((w.alloc (.cells #[.slice A0 rs.length c0] 24)).alloc (.cells #[.slice A1 ss.length c1] 24)).alloc (.cells #[.slice A2 ts.length c2] 24)).alloc (.cells #[.slice A0 rs.length c0, .slice A1 ss.length c1, .slice A2 ts.length c2] 24)) w' := B5.out.trans hw
    exact confClo_ok x A0 c0 w.heap.size rs A1 c1 (w.heap.size + 1) ss A2 c2 (w.heap.size + 2) ts w' (HA0.out.below hB) HS0.out hn0 (HA1.out.below hB) HS1.out hn1 (HA2.out.below hB) HS2.out hn2
      ((hB4.cell (p := ⟨w.heap.size, 0, none⟩) (show w.heap.size < w.heap.size + 4 by omega)).trans (M0.out.2 0 _ rfl))
      ((hB4.cell (p := ⟨w.heap.size + 1, 0, none⟩) (show w.heap.size + 1 < w.heap.size + 4 by omega)).trans (M1.out.2 0 _ rfl))
      ((hB4.cell (p := ⟨w.heap.size + 2, 0, none⟩) (show w.heap.size + 2 < w.heap.size + 4 by omega)).trans (M2.out.2 0 _ rfl)))
  go_wp2_with fail
  refine (delConf_ok g c' (w.heap.size + 4) (setOf (allsN [rs, ss, ts] 3)) (confP rs ss ts) (w.heap.size + 1) (w.heap.size + 2) w.heap.size w5 w5 O5.out (Below.refl _ _) hz5 HCLO.out (by omega)).mono ?_
  rintro e w6 ⟨rfl, ho2, hb2⟩
  go_wp2_with fail
  go_ret
  exact ⟨⟨g, c', rfl, own_mono ho2 (by omega)⟩, (B4.out.trans (B5.out.mono (by omega))).trans (hb2.mono (by omega))⟩

noncomputable def fConf (rs ss ts : List DSetting) : List Str × Int := if (stateB rs && stateB ss && stateB ts) = true then ((confN rs ss ts), 0) else ([], 1)
theorem fConf_small (rs ss ts : List DSetting) : (fConf rs ss ts).1.length ≤ 72 := by
  unfold fConf
  split
  · rename_i h
    simp only [Bool.and_eq_true] at h
    exact (confN_len (stateB_iff.1 h.1.1).2 (stateB_iff.1 h.1.2).2 (stateB_iff.1 h.2).2).2
  · simp


end Go.Proofs.Ytjeklbhdngkngaa
