/- ColourAfter and its reference. -/
import Derived.Test.YtnekigpeknenjaaOver
import Derived.Test.YtnekigpeknenjaaOrder
import Derived.Test.YtnekigpeknenjaaRet
namespace Go.Proofs.Ytnekigpeknenjaa
open Go.RowKit
set_option linter.unusedVariables false

def stepN (xs : List DCoat) (g : List Int) (i : Int) : List Int := match xs[i.toNat]? with | some x => overN x g | none => g
def stepsN (xs : List DCoat) (ord g : List Int) : List Int := ord.foldl (stepN xs) g
theorem stepN_at {xs : List DCoat} {g : List Int} {p : Nat} (hp : p < xs.length) : stepN xs g (p : Int) = overN xs[p] g := by
  simp only [stepN, Int.toNat_natCast, List.getElem?_eq_getElem hp]
theorem stepsN_next {xs : List DCoat} {ord g : List Int} {k : Nat} (hk : k < ord.length) : stepsN xs (ord.take (k + 1)) g = stepN xs (stepsN xs (ord.take k) g) ord[k] := by
  rw [List.take_succ_eq_append_getElem hk]
  simp only [stepsN, List.foldl_append, List.foldl_cons, List.foldl_nil]
theorem stepN_col {xs : List DCoat} {g : List Int} {i : Int} (hx : ∀ x ∈ xs, coatD x = true) (hg : Col g) : Col (stepN xs g i) := by
  unfold stepN
  split
  · rename_i x he
    exact overN_col (hx x (List.mem_of_getElem? he)) hg
  · exact hg
theorem stepsN_col {xs : List DCoat} (hx : ∀ x ∈ xs, coatD x = true) : ∀ (ord g : List Int), Col g → Col (stepsN xs ord g)
  | [], g, hg => hg
  | i :: ord, g, hg => stepsN_col hx ord (stepN xs g i) (stepN_col hx hg)
theorem coatsB_all {xs : List DCoat} (h : coatsB xs = true) : ∀ x ∈ xs, coatD x = true := fun x hx => by
  obtain ⟨j, hj, rfl⟩ := List.mem_iff_getElem.1 hx
  exact ((coatsB_iff.1 h).1 j hj hj).1
noncomputable def fCol (xs : List DCoat) (ord g : List Int) : List Int × Int :=
  if (coatsB xs && colB g) = false then ([], 1) else if ordB xs.length ord = false then ([], 7) else (stepsN xs ord g, 0)
theorem fCol_small (xs : List DCoat) (ord g : List Int) : (fCol xs ord g).1.length ≤ 3 := by
  unfold fCol
  split
  · simp
  · split
    · simp
    · rename_i h1 h2
      have h3 : coatsB xs = true ∧ colB g = true := by simpa using h1
      exact Nat.le_of_eq (stepsN_col (coatsB_all h3.1) ord g (colB_iff.1 h3.2)).2


set_option maxHeartbeats 1600000 in
set_option maxRecDepth 100000 in
theorem implCol_ok (A : Option Addr) (c : Nat) (xs : List DCoat) (O : Option Addr) (cO : Nat) (ord : List Int) (G : Option Addr) (cG : Nat) (g : List Int) (w : World) (hA : NestAt 1 hdCoat inCoat w A xs) (hok : ∀ x ∈ xs, x.ok) (hn : xs.length ≤ 1048576) (hi : ∀ x ∈ xs, x.fIn.length ≤ 1048576) (hO : IntsAt w O ord) (hno : ord.length ≤ 1048576) (hG : IntsAt w G g) (hng : g.length ≤ 1048576) :
    Calls Try.prog 19 #[.slice A xs.length c, .slice O ord.length cO, .slice G g.length cG] w (RetIC w (fCol xs ord g)) := by
  have HA := hid hA
  have HK := hid hok
  have HO := hid hO
  have HG := hid hG
  clear hA hok hi hO hG
  cases c1 : coatsB xs
  · have HF := hid (show fCol xs ord g = ([], 1) by unfold fCol; rw [if_pos (by rw [c1]; rfl)])
    go_enter Try.func19, Try.ntmps19
    go_wp2_with fail
    refine (ValidCoats_ok A c xs _ HA.out HK.out hn).mono ?_
    rintro e w1 ⟨rfl, hb1⟩
    go_wp2_with (go_at_call 86; refine (isColour_ok G cG g _ (HG.out.below hb1) (by omega)).mono ?_; rintro e w2 ⟨rfl, hb2⟩)
    go_ret2
    exact RetIC.nil HF.out hb1
  cases c2 : colB g
  · have HF := hid (show fCol xs ord g = ([], 1) by unfold fCol; rw [if_pos (by rw [c1, c2]; rfl)])
    go_enter Try.func19, Try.ntmps19
    go_wp2_with fail
    refine (ValidCoats_ok A c xs _ HA.out HK.out hn).mono ?_
    rintro e w1 ⟨rfl, hb1⟩
    go_wp2_with (go_at_call 86; refine (isColour_ok G cG g _ (HG.out.below hb1) (by omega)).mono ?_; rintro e w2 ⟨rfl, hb2⟩)
    go_ret2
    exact RetIC.nil HF.out (below_trans hb1 hb2)
  cases c3 : ordB xs.length ord
  · have HF := hid (show fCol xs ord g = ([], 7) by unfold fCol; rw [if_neg (by rw [c1, c2]; exact fun h => by cases h), if_pos c3])
    go_enter Try.func19, Try.ntmps19
    go_wp2_with fail
    refine (ValidCoats_ok A c xs _ HA.out HK.out hn).mono ?_
    rintro e w1 ⟨rfl, hb1⟩
    go_wp2_with (first | (go_at_call 86; refine (isColour_ok G cG g _ (HG.out.below hb1) (by omega)).mono ?_; rintro e w2 ⟨rfl, hb2⟩) | (go_at_call 87; refine (isOrder_ok _ _ xs.length O cO ord _ (HO.out.below (below_trans hb1 hb2)) hno hn).mono ?_; rintro e w' ⟨rfl, rfl⟩))
    go_ret2
    exact RetIC.nil HF.out (below_trans hb1 hb2)
  have HF := hid (show fCol xs ord g = (stepsN xs ord g, 0) by unfold fCol; rw [if_neg (by rw [c1, c2]; exact fun h => by cases h), if_neg (by rw [c3]; exact fun h => by cases h)])
  have HCG := hid (show Col g from colB_iff.1 c2)
  have HORD := hid (ordB_iff.1 c3)
  have HALL := hid (coatsB_all c1)
  have HNN := hid (show G = none → cG = 0 from fun h => by
    obtain ⟨b, o, hb, _⟩ := HG.out (by intro e; have h2 := HCG.out.2; rw [e] at h2; exact absurd h2 (by simp))
    rw [h] at hb
    cases hb)
  go_enter Try.func19, Try.ntmps19
  go_wp2_with fail
  refine (ValidCoats_ok A c xs _ HA.out HK.out hn).mono ?_
  rintro e w1 ⟨rfl, hb1⟩
  go_wp2_with (first | (go_at_call 86; refine (isColour_ok G cG g _ (HG.out.below hb1) (by omega)).mono ?_; rintro e w2 ⟨rfl, hb2⟩) | (go_at_call 87; refine (isOrder_ok _ _ xs.length O cO ord _ (HO.out.below (below_trans hb1 hb2)) hno hn).mono ?_; rintro e w' ⟨rfl, rfl⟩) | (go_at_call 88; refine (cloneInt_ok G cG g _ (HG.out.below (below_trans hb1 hb2)) hng HNN.out).mono ?_; rintro e w3 ⟨A3, c3, rfl, ho3, hno3, hb3⟩))
  have B3 := hid (below_trans (below_trans hb1 hb2) hb3)
  have H3 := hid (own_mono ho3 (below_trans hb1 hb2).size)
  clear ho3 hno3 hb1 hb2 hb3
  go_loopw [8, 27] (fun v i wr => ∃ (k : Nat) (cs : List Int) (Ac : Option Addr) (cc : Nat), k ≤ ord.length ∧ i = .int .i64 k ∧ v = .slice Ac cs.length cc ∧ cs = stepsN xs (ord.take k) g ∧ wr.ownsRow w.heap.size 2 1 (.slice Ac cs.length cc) cs.length (cs.map (Value.int .i64)) ∧ Below w.heap.size w wr) (fun _ i _ => ord.length - (intOf i).toNat)
  case atStart => exact ⟨0, g, A3, c3, Nat.zero_le _, rfl, rfl, rfl, H3.out, B3.out⟩
  case round =>
    obtain ⟨k, cs, Ac, cc, hk, rfl, rfl, hcs, hown, hbel⟩ := hrel
    have HCS := hid hcs
    have HOW := hid hown
    have HB := hid hbel
    clear hcs hown hbel
    by_cases hkl : k < ord.length
    · obtain ⟨i0, i1⟩ := HORD.out.1 _ (List.getElem_mem hkl)
      obtain ⟨p, hp⟩ : ∃ p : Nat, ord[k] = (p : Int) := ⟨ord[k].toNat, by omega⟩
      have hpl : p < xs.length := by omega
      obtain ⟨ob, oo, rfl, olt, hoc⟩ := (HO.out.below HB.out) (by intro e; rw [e] at hkl; exact absurd hkl (by simp))
      have hcell : wr.cell? ⟨ob, oo + k, none⟩ = some (.int .i64 (p : Int)) := by rw [← hp]; exact hoc k _ (List.getElem?_eq_getElem hkl)
      obtain ⟨b, o, A', c', rfl, hlt, hc0, hc1, hc2, hc3, hr⟩ := (HA.out.below HB.out).atCoat hpl
      have HR := hid hr
      have HV := hid (HALL.out xs[p] (List.getElem_mem hpl))
      have HCC := hid (show Col cs from HCS.out ▸ stepsN_col HALL.out (ord.take k) g HCG.out)
      have HS := hid (show overN xs[p] cs = stepsN xs (ord.take (k + 1)) g by rw [stepsN_next hkl, hp, stepN_at hpl, ← HCS.out])
      have q0 : (0 : Int) ≤ (k : Int) := by omega
      have q1 : (k : Int) < ord.length := by omega
      have q2 : (0 : Int) ≤ (p : Int) := by omega
      have q3 : (p : Int) < xs.length := by omega
      clear hr hoc i0 i1 hp
      go_wp2_with (go_at_call 89; refine (over_ok xs[p] A' Ac c' cc cs _ HV.out HR.out (ints_own HOW.out) HCC.out).mono ?_; rintro e w5 ⟨A5, c5, rfl, ho5, hno5, hb5⟩)
      go_roundw
      case rel => exact ⟨k + 1, overN xs[p] cs, A5, c5, by omega, by go_num, rfl, HS.out, own_mono ho5 HB.out.size, below_trans HB.out hb5⟩
      case measure => simp [intOf]; omega
    · have hk2 : k = ord.length := by omega
      subst hk2
      have HE := hid (show fCol xs ord g = (cs, 0) by rw [HF.out, HCS.out, List.take_of_length_le (Nat.le_refl _)])
      go_wp2_with fail
      go_ret2
      exact RetIC.own HE.out HOW.out HB.out


set_option maxHeartbeats 1600000 in
set_option maxRecDepth 100000 in
theorem specCol_ok (A : Option Addr) (c : Nat) (xs : List DCoat) (O : Option Addr) (cO : Nat) (ord : List Int) (G : Option Addr) (cG : Nat) (g : List Int) (w : World) (hA : NestAt 1 hdCoat inCoat w A xs) (hok : ∀ x ∈ xs, x.ok) (hn : xs.length ≤ 1048576) (hi : ∀ x ∈ xs, x.fIn.length ≤ 1048576) (hO : IntsAt w O ord) (hno : ord.length ≤ 1048576) (hG : IntsAt w G g) (hng : g.length ≤ 1048576) :
    Calls Try.prog 16 #[.slice A xs.length c, .slice O ord.length cO, .slice G g.length cG] w (RetIC w (fCol xs ord g)) := by
  have HA := hid hA
  have HK := hid hok
  have HO := hid hO
  have HG := hid hG
  clear hA hok hi hO hG
  cases c1 : coatsB xs
  · have HF := hid (show fCol xs ord g = ([], 1) by unfold fCol; rw [if_pos (by rw [c1]; rfl)])
    go_enter Try.func16, Try.ntmps16
    go_wp2_with fail
    refine (l13Ok_ok A c xs _ HA.out HK.out hn).mono ?_
    rintro e w1 ⟨rfl, hb1⟩
    go_wp2_with (go_at_call 80; refine (l13Colour_ok G cG g _ (HG.out.below hb1) (by omega)).mono ?_; rintro e w2 ⟨rfl, hb2⟩)
    go_ret2
    exact RetIC.nil HF.out hb1
  cases c2 : colB g
  · have HF := hid (show fCol xs ord g = ([], 1) by unfold fCol; rw [if_pos (by rw [c1, c2]; rfl)])
    go_enter Try.func16, Try.ntmps16
    go_wp2_with fail
    refine (l13Ok_ok A c xs _ HA.out HK.out hn).mono ?_
    rintro e w1 ⟨rfl, hb1⟩
    go_wp2_with (go_at_call 80; refine (l13Colour_ok G cG g _ (HG.out.below hb1) (by omega)).mono ?_; rintro e w2 ⟨rfl, hb2⟩)
    go_ret2
    exact RetIC.nil HF.out (below_trans hb1 hb2)
  cases c3 : ordB xs.length ord
  · have HF := hid (show fCol xs ord g = ([], 7) by unfold fCol; rw [if_neg (by rw [c1, c2]; exact fun h => by cases h), if_pos c3])
    go_enter Try.func16, Try.ntmps16
    go_wp2_with fail
    refine (l13Ok_ok A c xs _ HA.out HK.out hn).mono ?_
    rintro e w1 ⟨rfl, hb1⟩
    go_wp2_with (first | (go_at_call 80; refine (l13Colour_ok G cG g _ (HG.out.below hb1) (by omega)).mono ?_; rintro e w2 ⟨rfl, hb2⟩) | (go_at_call 81; refine (l13Order_ok _ _ xs.length O cO ord _ (HO.out.below (below_trans hb1 hb2)) hno hn).mono ?_; rintro e w' ⟨rfl, rfl⟩))
    go_ret2
    exact RetIC.nil HF.out (below_trans hb1 hb2)
  have HF := hid (show fCol xs ord g = (stepsN xs ord g, 0) by unfold fCol; rw [if_neg (by rw [c1, c2]; exact fun h => by cases h), if_neg (by rw [c3]; exact fun h => by cases h)])
  have HCG := hid (show Col g from colB_iff.1 c2)
  have HORD := hid (ordB_iff.1 c3)
  have HALL := hid (coatsB_all c1)
  have HNN := hid (show G = none → cG = 0 from fun h => by
    obtain ⟨b, o, hb, _⟩ := HG.out (by intro e; have h2 := HCG.out.2; rw [e] at h2; exact absurd h2 (by simp))
    rw [h] at hb
    cases hb)
  go_enter Try.func16, Try.ntmps16
  go_wp2_with fail
  refine (l13Ok_ok A c xs _ HA.out HK.out hn).mono ?_
  rintro e w1 ⟨rfl, hb1⟩
  go_wp2_with (first | (go_at_call 80; refine (l13Colour_ok G cG g _ (HG.out.below hb1) (by omega)).mono ?_; rintro e w2 ⟨rfl, hb2⟩) | (go_at_call 81; refine (l13Order_ok _ _ xs.length O cO ord _ (HO.out.below (below_trans hb1 hb2)) hno hn).mono ?_; rintro e w' ⟨rfl, rfl⟩) | (go_at_call 82; refine (l00Own_ok G cG g _ (HG.out.below (below_trans hb1 hb2)) hng HNN.out).mono ?_; rintro e w3 ⟨A3, c3, rfl, ho3, hno3, hb3⟩))
  have B3 := hid (below_trans (below_trans hb1 hb2) hb3)
  have H3 := hid (own_mono ho3 (below_trans hb1 hb2).size)
  clear ho3 hno3 hb1 hb2 hb3
  go_loopw [8, 9] (fun v i wr => ∃ (k : Nat) (cs : List Int) (Ac : Option Addr) (cc : Nat), k ≤ ord.length ∧ i = .int .i64 k ∧ v = .slice Ac cs.length cc ∧ cs = stepsN xs (ord.take k) g ∧ wr.ownsRow w.heap.size 2 1 (.slice Ac cs.length cc) cs.length (cs.map (Value.int .i64)) ∧ Below w.heap.size w wr) (fun _ i _ => ord.length - (intOf i).toNat)
  case atStart => exact ⟨0, g, A3, c3, Nat.zero_le _, rfl, rfl, rfl, H3.out, B3.out⟩
  case round =>
    obtain ⟨k, cs, Ac, cc, hk, rfl, rfl, hcs, hown, hbel⟩ := hrel
    have HCS := hid hcs
    have HOW := hid hown
    have HB := hid hbel
    clear hcs hown hbel
    by_cases hkl : k < ord.length
    · obtain ⟨i0, i1⟩ := HORD.out.1 _ (List.getElem_mem hkl)
      obtain ⟨p, hp⟩ : ∃ p : Nat, ord[k] = (p : Int) := ⟨ord[k].toNat, by omega⟩
      have hpl : p < xs.length := by omega
      obtain ⟨ob, oo, rfl, olt, hoc⟩ := (HO.out.below HB.out) (by intro e; rw [e] at hkl; exact absurd hkl (by simp))
      have hcell : wr.cell? ⟨ob, oo + k, none⟩ = some (.int .i64 (p : Int)) := by rw [← hp]; exact hoc k _ (List.getElem?_eq_getElem hkl)
      obtain ⟨b, o, A', c', rfl, hlt, hc0, hc1, hc2, hc3, hr⟩ := (HA.out.below HB.out).atCoat hpl
      have HR := hid hr
      have HV := hid (HALL.out xs[p] (List.getElem_mem hpl))
      have HCC := hid (show Col cs from HCS.out ▸ stepsN_col HALL.out (ord.take k) g HCG.out)
      have HS := hid (show overN xs[p] cs = stepsN xs (ord.take (k + 1)) g by rw [stepsN_next hkl, hp, stepN_at hpl, ← HCS.out])
      have q0 : (0 : Int) ≤ (k : Int) := by omega
      have q1 : (k : Int) < ord.length := by omega
      have q2 : (0 : Int) ≤ (p : Int) := by omega
      have q3 : (p : Int) < xs.length := by omega
      clear hr hoc i0 i1 hp
      go_wp2_with (go_at_call 83; refine (l13Over_ok xs[p] A' Ac b (o + p * 4) c' cc cs _ HV.out HR.out hlt hc2 hc3 (ints_own HOW.out) HCC.out).mono ?_; rintro e w5 ⟨A5, c5, rfl, ho5, hno5, hb5⟩)
      go_roundw
      case rel => exact ⟨k + 1, overN xs[p] cs, A5, c5, by omega, by go_num, rfl, HS.out, own_mono ho5 HB.out.size, below_trans HB.out hb5⟩
      case measure => simp [intOf]; omega
    · have hk2 : k = ord.length := by omega
      subst hk2
      have HE := hid (show fCol xs ord g = (cs, 0) by rw [HF.out, HCS.out, List.take_of_length_le (Nat.le_refl _)])
      go_wp2_with fail
      go_ret2
      exact RetIC.own HE.out HOW.out HB.out

end Go.Proofs.Ytnekigpeknenjaa
