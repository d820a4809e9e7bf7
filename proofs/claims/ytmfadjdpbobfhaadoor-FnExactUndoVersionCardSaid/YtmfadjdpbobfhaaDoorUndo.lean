/- UndoVersion and its reference. -/
import Derived.Test.YtmfadjdpbobfhaaDoorCommitS
import Derived.Test.YtmfadjdpbobfhaaDoorText0
import Derived.Test.YtmfadjdpbobfhaaDoorDec
import Derived.Test.YtmfadjdpbobfhaaDoorKeep
namespace Go.Proofs.YtmfadjdpbobfhaaDoor
open Go.RowKit
set_option linter.unusedVariables false

theorem NestRV.wideL {α : Type} {hd : α → List Value} {inn : α → List (List Value)} {k : Nat} {w : World} {B B' L : Nat} {T T' : TypeId} {A : Option Addr} {c : Nat} {vs : List α} (h : B' ≤ B) (N : NestRV w B L T T' k hd inn A c vs) : NestRV w B' L T T' k hd inn A c vs := by
  rcases N with h1 | ⟨g, ps, hA, h1⟩
  · exact .inl h1
  · exact .inr ⟨g, ps, hA, h1.wide h (Nat.le_refl _)⟩
/-- the state of a version; none for 0 -/
def stOf (xs : List DVersion) (p : Int) : List DSetting := if p = 0 then [] else match xs[p.toNat - 1]? with | some v => v.fIn | none => []
theorem stOf_at {xs : List DVersion} {p : Int} (h0 : 0 < p) (hl : p.toNat - 1 < xs.length) : stOf xs p = xs[p.toNat - 1].fIn := by
  unfold stOf
  rw [if_neg (by omega), List.getElem?_eq_getElem hl]
def undoT (m : Int) : ByteArray := (⟨#[117, 110, 100, 111, 32]⟩ : ByteArray) ++ dec m
def parV (xs : List DVersion) (m : Int) : Int := match xs[m.toNat - 1]? with | some v => v.fParent | none => 0
theorem parV_at {xs : List DVersion} {m : Int} (hl : m.toNat - 1 < xs.length) : parV xs m = xs[m.toNat - 1].fParent := by unfold parV; rw [List.getElem?_eq_getElem hl]
noncomputable def fUndo (xs : List DVersion) (m : Int) : List DVersion × Int :=
  if histB xs = false then ([], 1) else if inB m 1 xs.length = false then ([], 3) else fAdd xs m (undoT m) (stOf xs (parV xs m))
theorem stOf_len {xs : List DVersion} (hi : ∀ x ∈ xs, x.fIn.length ≤ 1048576) (p : Int) : (stOf xs p).length ≤ 1048576 := by
  unfold stOf
  split
  · simp
  · split
    · rename_i v hv
      exact hi v (List.mem_of_getElem? hv)
    · simp
theorem fUndo_small (xs : List DVersion) (m : Int) : (fUndo xs m).1.length ≤ 33 := by
  unfold fUndo
  split
  · simp
  · rename_i h
    split
    · simp
    · exact fAdd_small (histB_iff.1 (by simpa using h)).2
theorem fUndo_in {xs : List DVersion} {m : Int} (hi : ∀ x ∈ xs, x.fIn.length ≤ 1048576) : ∀ x ∈ (fUndo xs m).1, x.fIn.length ≤ 1048576 := by
  unfold fUndo
  split
  · intro x hx; cases hx
  · split
    · intro x hx; cases hx
    · unfold fAdd
      split
      · intro x hx; cases hx
      · intro x hx
        rcases List.mem_append.1 hx with hx | hx
        · exact hi x hx
        · have : x = newV xs m (undoT m) (stOf xs (parV xs m)) := by simpa using hx
          rw [this]
          exact stOf_len hi _

set_option maxHeartbeats 800000 in
set_option maxRecDepth 100000 in
theorem stateOf_ok (g0 : Nat) (xs : List DVersion) (p : Int) (w : World) (hA : NestB 2 hdVersion inVersion w g0 xs) (h0 : 0 ≤ p) (h1 : p ≤ xs.length) (hn : xs.length ≤ 32) :
    Calls Tryd.prog 60 #[.slice (some ⟨g0, 0, none⟩) xs.length xs.length, .int .i64 p] w fun e w' => (∃ (A : Option Addr) (c : Nat), e = .returned (.slice A (stOf xs p).length c) ∧ (A = none → c = 0) ∧ RowsAt w' 2 A ((stOf xs p).map DSetting.cells)) ∧ Below w.heap.size w w' := by
  by_cases hp : p = 0
  · subst hp
    go_enter Tryd.func60, Tryd.ntmps60
    go_wp2_with fail
    go_ret
    exact ⟨⟨none, 0, rfl, fun _ => rfl, fun h => absurd rfl h⟩, Below.refl _ _⟩
  · have hl : p.toNat - 1 < xs.length := by omega
    have HE := hid (stOf_at (by omega) hl)
    obtain ⟨hlt, hc⟩ := hA (by intro e; rw [e] at hl; exact absurd hl (by simp))
    obtain ⟨_, gi, h2, h3⟩ := hc (p.toNat - 1) xs[p.toNat - 1] (List.getElem?_eq_getElem hl)
    rw [inVersion_length] at h2
    have HR := hid h3
    have e2 : IntKind.i64.wrap (p - 1) = p - 1 := IntWalk.i64_in _ (by omega)
    have e4 : (p - 1).toNat = p.toNat - 1 := by omega
    have e5 : p - 1 < xs.length := by omega
    have e7 : (0 : Int) ≤ p - 1 := by omega
    have e8 : (1 : Int) ≤ p := by omega
    have d0 : (p == 0) = false := by rw [beq_eq_false_iff_ne]; exact hp
    clear hA hc h3
    go_enter Tryd.func60, Tryd.ntmps60
    go_wp2_with fail
    go_ret
    exact ⟨⟨_, _, by rw [HE.out]; first | done | rfl, (fun h => by cases h), by rw [HE.out]; exact HR.out⟩, Below.refl _ _⟩

set_option maxHeartbeats 800000 in
set_option maxRecDepth 100000 in
theorem l27StateOf_ok (g0 : Nat) (xs : List DVersion) (p : Int) (w : World) (hA : NestB 2 hdVersion inVersion w g0 xs) (h0 : 0 ≤ p) (h1 : p ≤ xs.length) (hn : xs.length ≤ 32) :
    Calls Tryd.prog 54 #[.slice (some ⟨g0, 0, none⟩) xs.length xs.length, .int .i64 p] w fun e w' => (∃ g : Nat, e = .returned (.slice (some ⟨g, 0, none⟩) (stOf xs p).length (stOf xs p).length) ∧ RowsAt w' 2 (some ⟨g, 0, none⟩) ((stOf xs p).map DSetting.cells)) ∧ Below w.heap.size w w' := by
  by_cases hp : p = 0
  · subst hp
    go_enter Tryd.func54, Tryd.ntmps54
    go_wp2_with fail
    go_ret
    exact ⟨⟨_, rfl, fun h => absurd rfl h⟩, below_alloc _ _⟩
  · have hl : p.toNat - 1 < xs.length := by omega
    have HE := hid (stOf_at (by omega) hl)
    obtain ⟨hlt, hc⟩ := hA (by intro e; rw [e] at hl; exact absurd hl (by simp))
    obtain ⟨_, gi, h2, h3⟩ := hc (p.toNat - 1) xs[p.toNat - 1] (List.getElem?_eq_getElem hl)
    rw [inVersion_length] at h2
    have HR := hid h3
    have e2 : IntKind.i64.wrap (p - 1) = p - 1 := IntWalk.i64_in _ (by omega)
    have e4 : (p - 1).toNat = p.toNat - 1 := by omega
    have e5 : p - 1 < xs.length := by omega
    have e7 : (0 : Int) ≤ p - 1 := by omega
    have e8 : (1 : Int) ≤ p := by omega
    have d0 : (p == 0) = false := by rw [beq_eq_false_iff_ne]; exact hp
    clear hA hc h3
    go_enter Tryd.func54, Tryd.ntmps54
    go_wp2_with fail
    go_ret
    exact ⟨⟨_, by rw [HE.out]; first | done | rfl, by rw [HE.out]; exact HR.out⟩, Below.refl _ _⟩

set_option maxHeartbeats 3200000 in
set_option maxRecDepth 100000 in
theorem implUndo_ok (g0 : Nat) (xs : List DVersion) (m : Int) (w : World) (hA : NestB 2 hdVersion inVersion w g0 xs) (hok : ∀ x ∈ xs, x.ok) (hn : xs.length ≤ 1048576) (hi : ∀ x ∈ xs, x.fIn.length ≤ 1048576) (hr : -9223372036854775808 ≤ m ∧ m ≤ 9223372036854775807) (ht : Tab w) :
    Calls Tryd.prog 13 #[.slice (some ⟨g0, 0, none⟩) xs.length xs.length, .int .i64 m] w (RetVC w (fUndo xs m)) := by
  have HA := hid hA
  have HK := hid hok
  have HI := hid hi
  have HT := hid ht
  clear hA hok hi ht
  cases c1 : histB xs
  · have HF := hid (show fUndo xs m = ([], 1) by unfold fUndo; rw [if_pos c1])
    go_enter Tryd.func13, Tryd.ntmps13
    go_wp2_with (go_at_call 56; refine (ValidHistory_ok _ _ xs _ HA.out.at HK.out hn HI.out).mono ?_; rintro e w1 ⟨rfl, hb⟩; have B1 := hid hb; clear hb)
    go_ret2
    exact RetVC.nil HF.out B1.out
  have HL := hid (histB_iff.1 c1).2
  have HH := hid (histB_iff.1 c1).1
  cases c2 : inB m 1 xs.length
  · have HF := hid (show fUndo xs m = ([], 3) by unfold fUndo; rw [if_neg (by rw [c1]; simp), if_pos c2])
    go_enter Tryd.func13, Tryd.ntmps13
    go_wp2_with (first | (go_at_call 56; refine (ValidHistory_ok _ _ xs _ HA.out.at HK.out hn HI.out).mono ?_; rintro e w1 ⟨rfl, hb⟩; have B1 := hid hb; clear hb) | (go_at_call 57; refine (isv_impl _ _ _ _ _ HL.out hr c2).mono ?_; rintro e w' ⟨rfl, rfl⟩))
    go_ret2
    exact RetVC.nil HF.out B1.out
  have HF := hid (show fUndo xs m = fAdd xs m (undoT m) (stOf xs (parV xs m)) by unfold fUndo; rw [if_neg (by rw [c1]; simp), if_neg (by rw [c2]; simp)])
  have hm := inB_iff.1 c2
  have hl : m.toNat - 1 < xs.length := by omega
  go_enter Tryd.func13, Tryd.ntmps13
  go_wp2_with (first | (go_at_call 56; refine (ValidHistory_ok _ _ xs _ HA.out.at HK.out hn HI.out).mono ?_; rintro e w1 ⟨rfl, hb⟩; have B1 := hid hb; clear hb) | (go_at_call 57; refine (isv_impl _ _ _ _ _ HL.out hr c2).mono ?_; rintro e w' ⟨rfl, rfl⟩))
  have HT1 := hid (HT.out.below B1.out)
  have HA1 := hid (HA.out.below B1.out)
  obtain ⟨hlt, hc⟩ := HA1.out (by intro e; rw [e] at hl; exact absurd hl (by simp))
  have hc1 := (hc (m.toNat - 1) xs[m.toNat - 1] (List.getElem?_eq_getElem hl)).1 1 _ rfl
  have hpar := inB_iff.1 (HH.out (m.toNat - 1) hl hl).2.1
  have hpe := parV_at hl
  obtain ⟨p, hp⟩ : ∃ p, p = parV xs m := ⟨_, rfl⟩
  rw [← hp] at hpe HF
  rw [← hpe] at hc1 hpar
  have hp0 : 0 ≤ p := hpar.1
  have hp1 : p ≤ xs.length := by omega
  have hsl := stOf_len HI.out p
  have e2 : IntKind.i64.wrap (m - 1) = m - 1 := IntWalk.i64_in _ (by omega)
  have e4 : (m - 1).toNat = m.toNat - 1 := by omega
  have e5 : m - 1 < xs.length := by omega
  have e7 : (0 : Int) ≤ m - 1 := by omega
  have e8 : (1 : Int) ≤ m := by omega
  have sd : (dec m).size ≤ 20 := dec_size (by omega) (by omega)
  have g1 : ¬ 9223372036854775807 < 5 + (dec m).size := by omega
  clear hc hp hpe hpar
  go_region_held3 (fun w' => (Tab w' ∧ Below w1.heap.size w1 w') ∧ w'.cell? ⟨g0, (m.toNat - 1) * 4 + 1, none⟩ = some (.int .i64 p))
    (first | exact ⟨⟨HT1.out.drew, (Below.refl _ _).drew⟩, hc1⟩ | exact keepT1 hlt ‹_ ∧ _› ‹Below _ _ _›)
    (first | (go_at_call 59; refine (Decimal_ok m _ hr.1 hr.2 (And.left (And.left ‹(Tab _ ∧ _) ∧ _›))).mono ?_; rintro e wd ⟨rfl, hbd⟩) | (go_at_call 60; refine (stateOf_ok g0 xs p _ (HA1.out.below (And.right (And.left ‹(Tab _ ∧ _) ∧ _›))) hp0 hp1 HL.out).mono ?_; rintro e ws ⟨⟨A1, c1, rfl, hno, hrs⟩, hbs⟩; have HRS := hid hrs; have HNO := hid hno; clear hrs hno) | (go_at_call 58; refine (commit_gen g0 xs m (undoT m) A1 c1 (stOf xs p) _ (HA1.out.below (And.right (And.left ‹(Tab _ ∧ _) ∧ _›))) HL.out HI.out (by first | exact HRS.out | exact HRS.out.below hbd) hsl HNO.out).mono ?_; rintro e wc ⟨A9, c9, rfl, hN, hbc⟩; have N9 := hid (NestRV.wideL (Nat.le_trans B1.out.size (And.right (And.left ‹(Tab _ ∧ Below w1.heap.size w1 _) ∧ _›)).size) hN); clear hN))
  obtain ⟨⟨_, hB⟩, _⟩ := ‹(_ ∧ Below _ _ wc) ∧ _›
  go_wp2_with fail
  go_ret2
  rw [HF.out]
  exact ⟨A9, c9, rfl, N9.out, below_trans B1.out hB⟩

set_option maxHeartbeats 3200000 in
set_option maxRecDepth 100000 in
theorem specUndo_ok (g0 : Nat) (xs : List DVersion) (m : Int) (w : World) (hA : NestB 2 hdVersion inVersion w g0 xs) (hok : ∀ x ∈ xs, x.ok) (hn : xs.length ≤ 1048576) (hi : ∀ x ∈ xs, x.fIn.length ≤ 1048576) (hr : -9223372036854775808 ≤ m ∧ m ≤ 9223372036854775807) (ht : Tab w) :
    Calls Tryd.prog 11 #[.slice (some ⟨g0, 0, none⟩) xs.length xs.length, .int .i64 m] w (RetVC w (fUndo xs m)) := by
  have HA := hid hA
  have HK := hid hok
  have HI := hid hi
  have HT := hid ht
  clear hA hok hi ht
  cases c1 : histB xs
  · have HF := hid (show fUndo xs m = ([], 1) by unfold fUndo; rw [if_pos c1])
    go_enter Tryd.func11, Tryd.ntmps11
    go_wp2_with (go_at_call 50; refine (l27Ok_ok _ _ xs _ HA.out.at HK.out hn HI.out).mono ?_; rintro e w1 ⟨rfl, hb⟩; have B1 := hid hb; clear hb)
    go_ret2
    exact RetVC.nil HF.out B1.out
  have HL := hid (histB_iff.1 c1).2
  have HH := hid (histB_iff.1 c1).1
  cases c2 : inB m 1 xs.length
  · have HF := hid (show fUndo xs m = ([], 3) by unfold fUndo; rw [if_neg (by rw [c1]; simp), if_pos c2])
    go_enter Tryd.func11, Tryd.ntmps11
    go_wp2_with (first | (go_at_call 50; refine (l27Ok_ok _ _ xs _ HA.out.at HK.out hn HI.out).mono ?_; rintro e w1 ⟨rfl, hb⟩; have B1 := hid hb; clear hb) | (go_at_call 51; refine (isv_spec _ _ _ _ _ HL.out hr c2).mono ?_; rintro e w' ⟨rfl, rfl⟩))
    go_ret2
    exact RetVC.nil HF.out B1.out
  have HF := hid (show fUndo xs m = fAdd xs m (undoT m) (stOf xs (parV xs m)) by unfold fUndo; rw [if_neg (by rw [c1]; simp), if_neg (by rw [c2]; simp)])
  have hm := inB_iff.1 c2
  have hl : m.toNat - 1 < xs.length := by omega
  go_enter Tryd.func11, Tryd.ntmps11
  go_wp2_with (first | (go_at_call 50; refine (l27Ok_ok _ _ xs _ HA.out.at HK.out hn HI.out).mono ?_; rintro e w1 ⟨rfl, hb⟩; have B1 := hid hb; clear hb) | (go_at_call 51; refine (isv_spec _ _ _ _ _ HL.out hr c2).mono ?_; rintro e w' ⟨rfl, rfl⟩))
  have HT1 := hid (HT.out.below B1.out)
  have HA1 := hid (HA.out.below B1.out)
  obtain ⟨hlt, hc⟩ := HA1.out (by intro e; rw [e] at hl; exact absurd hl (by simp))
  have hc1 := (hc (m.toNat - 1) xs[m.toNat - 1] (List.getElem?_eq_getElem hl)).1 1 _ rfl
  have hpar := inB_iff.1 (HH.out (m.toNat - 1) hl hl).2.1
  have hpe := parV_at hl
  obtain ⟨p, hp⟩ : ∃ p, p = parV xs m := ⟨_, rfl⟩
  rw [← hp] at hpe HF
  rw [← hpe] at hc1 hpar
  have hp0 : 0 ≤ p := hpar.1
  have hp1 : p ≤ xs.length := by omega
  have hsl := stOf_len HI.out p
  have e2 : IntKind.i64.wrap (m - 1) = m - 1 := IntWalk.i64_in _ (by omega)
  have e4 : (m - 1).toNat = m.toNat - 1 := by omega
  have e5 : m - 1 < xs.length := by omega
  have e7 : (0 : Int) ≤ m - 1 := by omega
  have e8 : (1 : Int) ≤ m := by omega
  have sd : (dec m).size ≤ 20 := dec_size (by omega) (by omega)
  have g1 : ¬ 9223372036854775807 < 5 + (dec m).size := by omega
  clear hc hp hpe hpar
  go_region_held3 (fun w' => (Tab w' ∧ Below w1.heap.size w1 w') ∧ w'.cell? ⟨g0, (m.toNat - 1) * 4 + 1, none⟩ = some (.int .i64 p))
    (first | exact ⟨⟨HT1.out.drew, (Below.refl _ _).drew⟩, hc1⟩ | exact keepT1 hlt ‹_ ∧ _› ‹Below _ _ _›)
    (first | (go_at_call 53; refine (l01Dec_ok m _ (by omega) hr.2).mono ?_; rintro e wd ⟨rfl, hbd⟩) | (go_at_call 54; refine (l27StateOf_ok g0 xs p _ (HA1.out.below (And.right (And.left ‹(Tab _ ∧ _) ∧ _›))) hp0 hp1 HL.out).mono ?_; rintro e ws ⟨⟨g1, rfl, hrs⟩, hbs⟩; have HRS := hid hrs; clear hrs) | (go_at_call 52; refine (l27Add_ok g0 xs m (undoT m) g1 (stOf xs p) _ (HA1.out.below (And.right (And.left ‹(Tab _ ∧ _) ∧ _›))) HL.out HI.out (by first | exact HRS.out | exact HRS.out.below hbd) hsl).mono ?_; rintro e wc ⟨A9, c9, rfl, hN, hbc⟩; have N9 := hid (NestRV.wideL (Nat.le_trans B1.out.size (And.right (And.left ‹(Tab _ ∧ Below w1.heap.size w1 _) ∧ _›)).size) hN); clear hN))
  obtain ⟨⟨_, hB⟩, _⟩ := ‹(_ ∧ Below _ _ wc) ∧ _›
  go_wp2_with fail
  go_ret2
  rw [HF.out]
  exact ⟨A9, c9, rfl, N9.out, below_trans B1.out hB⟩


end Go.Proofs.YtmfadjdpbobfhaaDoor
