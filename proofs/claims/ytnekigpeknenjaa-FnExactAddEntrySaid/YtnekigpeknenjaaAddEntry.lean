/- AddEntry and its reference. -/
import Derived.Test.YtnekigpeknenjaaIEntry
import Derived.Test.YtnekigpeknenjaaVEntry
import Derived.Test.YtnekigpeknenjaaRange
namespace Go.Proofs.Ytnekigpeknenjaa
open Go.RowKit
set_option linter.unusedVariables false

/-- a list in new memory and a code -/
def RetEntryC (w : World) (r : List DEntry × Int) (e : Ending) (w' : World) : Prop :=
  ∃ A c, e = .returned (.tuple #[.slice A r.1.length c, .int .i64 r.2]) ∧ w'.ownsRow w.heap.size 85 4 (.slice A r.1.length c) r.1.length (r.1.map DEntry.cells).flatten ∧ (A = none → c = 0) ∧ Below w.heap.size w w'
theorem RetEntryC.nil {w w' : World} {r : List DEntry × Int} {c : Int} (h : r = ([], c)) (hb : Below w.heap.size w w') : RetEntryC w r (.returned (.tuple #[.slice none 0 0, .int .i64 c])) w' := by
  subst h
  exact ⟨none, 0, rfl, World.ownsRow_nil _ _ _ _, fun _ => rfl, hb⟩
theorem RetEntryC.own {w w' : World} {r : List DEntry × Int} {c : Int} {v : Value} {l : List DEntry} {n : Nat} (h : r = (l, c)) (hn : n = l.length) (ho : w'.ownsRow w.heap.size 85 4 v n (l.map DEntry.cells).flatten) (hb : Below w.heap.size w w') : RetEntryC w r (.returned (.tuple #[v, .int .i64 c])) w' := by
  subst h hn
  obtain ⟨h1, h2⟩ := ho
  rcases h2 with ⟨rfl, h0⟩ | ⟨g, cap, cur, rfl, r⟩
  · have : l = [] := by simpa using h0
    subst this
    exact ⟨none, 0, rfl, World.ownsRow_nil _ _ _ _, fun _ => rfl, hb⟩
  · exact ⟨_, _, rfl, ⟨h1, .inr ⟨g, cap, cur, rfl, r⟩⟩, fun h => (by cases h), hb⟩


/-- behind the last of the first k whose day is no later -/
def dnE (d : Int) (xs : List DEntry) : Nat → Nat
  | 0 => 0
  | k + 1 => match xs[k]? with
    | some y => if d < y.fDay then dnE d xs k else k + 1
    | none => k + 1
theorem dnE_le (d : Int) (xs : List DEntry) : ∀ k, dnE d xs k ≤ k
  | 0 => Nat.le_refl _
  | k + 1 => by
    have := dnE_le d xs k
    unfold dnE
    split
    · split <;> omega
    · omega
theorem dnE_yes {d : Int} {xs : List DEntry} {k : Nat} (hk : k < xs.length) (h : d < xs[k].fDay) : dnE d xs (k + 1) = dnE d xs k := by
  rw [dnE, List.getElem?_eq_getElem hk]
  exact if_pos h
theorem dnE_no {d : Int} {xs : List DEntry} {k : Nat} (hk : k < xs.length) (h : ¬ d < xs[k].fDay) : dnE d xs (k + 1) = k + 1 := by
  rw [dnE, List.getElem?_eq_getElem hk]
  exact if_neg h
noncomputable def fAddEntry (xs : List DEntry) (x : DEntry) : List DEntry × Int :=
  if entrysB xs = false then ([], 1) else if entryD x = false then ([], 1) else if xs.length = 32 then ([], 5) else (insEntry xs (dnE x.fDay xs xs.length) x, 0)
theorem fAddEntry_small (xs : List DEntry) (x : DEntry) : (fAddEntry xs x).1.length ≤ 32 := by
  unfold fAddEntry
  split
  · simp
  · split
    · simp
    · split
      · simp
      · rename_i h1 _ h3
        have h := (entrysB_iff.1 (by simpa using h1)).2
        rw [insEntry_length (dnE_le _ _ _)]
        omega
theorem fAddEntry_length (xs : List DEntry) (x : DEntry) : (fAddEntry xs x).1.length ≤ xs.length + 1 := by
  unfold fAddEntry
  split
  · simp
  · split
    · simp
    · split
      · simp
      · rw [insEntry_length (dnE_le _ _ _)]; exact Nat.le_refl _

set_option maxHeartbeats 1600000 in
set_option maxRecDepth 100000 in
theorem implAddEntry_ok (g0 : Nat) (xs : List DEntry) (x : DEntry) (w : World) (hA : RowsAt w 4 (some ⟨g0, 0, none⟩) (xs.map DEntry.cells)) (hok : ∀ x ∈ xs, x.ok) (hn : xs.length ≤ 1048576) (hxo : x.ok) :
    Calls Try.prog 65 #[.slice (some ⟨g0, 0, none⟩) xs.length xs.length, .agg #[.int .i64 x.fDay, .string x.fDebit, .string x.fCredit, .int .i64 x.fAmount]] w (RetEntryC w (fAddEntry xs x)) := by
  have HX0 := hid (HasC.new w [.int .i64 x.fDay, .string x.fDebit, .string x.fCredit, .int .i64 x.fAmount] 85)
  have HAA := hid hA
  have HA := hid (hA.below (below_alloc w (.cells #[.int .i64 x.fDay, .string x.fDebit, .string x.fCredit, .int .i64 x.fAmount] 85)))
  have HK := hid hok
  have hx := hid hxo
  clear hA hok hxo
  cases c1 : entrysB xs
  · have HF := hid (show fAddEntry xs x = ([], 1) by unfold fAddEntry; rw [if_pos c1])
    go_enter Try.func65, Try.ntmps65
    go_wp2_with fail
    refine (ValidBook_ok _ _ xs _ HA.out HK.out hn).mono ?_
    rintro e w1 ⟨rfl, hb⟩
    have HX1 := hid (HX0.out.below hb)
    have k0 := HX1.out.2 0 _ rfl
    have k1 := HX1.out.2 1 _ rfl
    have k2 := HX1.out.2 2 _ rfl
    have k3 := HX1.out.2 3 _ rfl
    have B1 := hid (below_chain hb (Below.refl _ _))
    clear hb
    go_wp2_with fail
    go_ret2
    exact RetEntryC.nil HF.out B1.out
  cases c2 : entryD x
  · have HF := hid (show fAddEntry xs x = ([], 1) by unfold fAddEntry; rw [if_neg (by rw [c1]; exact fun h => by cases h), if_pos c2])
    go_enter Try.func65, Try.ntmps65
    go_wp2_with fail
    refine (ValidBook_ok _ _ xs _ HA.out HK.out hn).mono ?_
    rintro e w1 ⟨rfl, hb⟩
    have HX1 := hid (HX0.out.below hb)
    have k0 := HX1.out.2 0 _ rfl
    have k1 := HX1.out.2 1 _ rfl
    have k2 := HX1.out.2 2 _ rfl
    have k3 := HX1.out.2 3 _ rfl
    have B1 := hid (below_chain hb (Below.refl _ _))
    clear hb
    go_wp2_with (go_at_call 149; refine (entryV_ok x _ hx.out).mono ?_; rintro e w2 ⟨rfl, hb2⟩)
    go_ret2
    exact RetEntryC.nil HF.out (below_trans B1.out hb2)
  by_cases c3 : xs.length = 32
  · have HF := hid (show fAddEntry xs x = ([], 5) by unfold fAddEntry; rw [if_neg (by rw [c1]; exact fun h => by cases h), if_neg (by rw [c2]; exact fun h => by cases h), if_pos c3])
    have e3 : ((xs.length : Int) == 32) = true := by rw [beq_iff_eq]; omega
    have C3 := hid c3
    clear c3
    go_enter Try.func65, Try.ntmps65
    go_wp2_with fail
    refine (ValidBook_ok _ _ xs _ HA.out HK.out hn).mono ?_
    rintro e w1 ⟨rfl, hb⟩
    have HX1 := hid (HX0.out.below hb)
    have k0 := HX1.out.2 0 _ rfl
    have k1 := HX1.out.2 1 _ rfl
    have k2 := HX1.out.2 2 _ rfl
    have k3 := HX1.out.2 3 _ rfl
    have B1 := hid (below_chain hb (Below.refl _ _))
    clear hb
    go_wp2_with (go_at_call 149; refine (entryV_ok x _ hx.out).mono ?_; rintro e w2 ⟨rfl, hb2⟩)
    go_ret2
    exact RetEntryC.nil HF.out (below_trans B1.out hb2)
  have HF := hid (show fAddEntry xs x = (insEntry xs (dnE x.fDay xs xs.length) x, 0) by unfold fAddEntry; rw [if_neg (by rw [c1]; exact fun h => by cases h), if_neg (by rw [c2]; exact fun h => by cases h), if_neg c3])
  have e3 : ((xs.length : Int) == 32) = false := by rw [beq_eq_false_iff_ne]; omega
  have e3' : ¬ ((xs.length : Int) = 32) := by omega
  clear c3
  go_enter Try.func65, Try.ntmps65
  go_wp2_with fail
  refine (ValidBook_ok _ _ xs _ HA.out HK.out hn).mono ?_
  rintro e w1 ⟨rfl, hb⟩
  have HX1 := hid (HX0.out.below hb)
  have k0 := HX1.out.2 0 _ rfl
  have k1 := HX1.out.2 1 _ rfl
  have k2 := HX1.out.2 2 _ rfl
  have k3 := HX1.out.2 3 _ rfl
  have B1 := hid (below_chain hb (Below.refl _ _))
  clear hb
  go_wp2_with (go_at_call 149; refine (entryV_ok x _ hx.out).mono ?_; rintro e w2 ⟨rfl, hb2⟩; have HX2 := hid (HX1.out.below hb2); have B2 := hid (below_trans B1.out hb2); clear hb2 k0 k1 k2 k3)
  have BX := hid (show Below (w.alloc (.cells #[.int .i64 x.fDay, .string x.fDebit, .string x.fCredit, .int .i64 x.fAmount] 85)).heap.size (w.alloc (.cells #[.int .i64 x.fDay, .string x.fDebit, .string x.fCredit, .int .i64 x.fAmount] 85)) w1 → True from fun _ => trivial)
  clear BX HX1 HX0 B1
  obtain ⟨wo, rfl⟩ : ∃ wo : World, wo = w2 := ⟨_, rfl⟩
  go_loopw [6] (fun i wr => ∃ k : Nat, k ≤ xs.length ∧ i = .int .i64 k ∧ dnE x.fDay xs k = dnE x.fDay xs xs.length ∧ HasC wr w.heap.size [.int .i64 x.fDay, .string x.fDebit, .string x.fCredit, .int .i64 x.fAmount] ∧ Below w.heap.size w wr) (fun i _ => (intOf i).toNat)
  case atStart => exact ⟨xs.length, Nat.le_refl _, rfl, rfl, HX2.out, B2.out⟩
  case round =>
    obtain ⟨k, hk, rfl, hdn, hhc, hbel⟩ := hrel
    have HD := hid hdn
    have HH := hid hhc
    have BW := hid hbel
    have HR := hid (HAA.out.below hbel)
    clear hdn hhc hbel
    have k0 := HH.out.2 0 _ rfl
    have k1 := HH.out.2 1 _ rfl
    have k2 := HH.out.2 2 _ rfl
    have k3 := HH.out.2 3 _ rfl
    by_cases hgo : 0 < k ∧ ∃ h : k - 1 < xs.length, x.fDay < xs[k - 1].fDay
    · obtain ⟨hk0, hkl, hday⟩ := hgo
      have HS := hid (show dnE x.fDay xs (k - 1) = dnE x.fDay xs xs.length by rw [← HD.out]; have e := dnE_yes hkl hday; rw [show k - 1 + 1 = k by omega] at e; exact e.symm)
      have hcell : wr.cell? ⟨g0, (k - 1) * 4, none⟩ = some (.int .i64 xs[k - 1].fDay) := HR.out.at0 (k - 1) (by rw [List.getElem?_map, List.getElem?_eq_getElem hkl]; rfl) rfl
      have e0 : decide (0 < k) = true := by simp; omega
      have e2 : IntKind.i64.wrap ((k : Int) - 1) = (k : Int) - 1 := IntWalk.i64_in _ (by omega)
      have e4 : ((k : Int) - 1).toNat = k - 1 := by omega
      have e5 : (k : Int) - 1 < xs.length := by omega
      have e6 : (1 : Int) ≤ (k : Int) := by omega
      have e7 : (0 : Int) ≤ (k : Int) - 1 := by omega
      have d2 : decide (x.fDay < xs[k - 1].fDay) = true := by simp; omega
      go_wp2_with fail
      go_quiet (fail)
      go_wp2_with fail
      go_roundw
      case rel => exact ⟨k - 1, by omega, by go_num, HS.out, HH.out, below_drewN' BW.out _⟩
      case measure => simp [intOf]; omega
    · have hP : dnE x.fDay xs xs.length = k := by
        rw [← HD.out]
        rcases Nat.eq_zero_or_pos k with h0 | h0
        · subst h0; rfl
        · have e := dnE_no (d := x.fDay) (xs := xs) (k := k - 1) (by omega) (fun h => hgo ⟨h0, by omega, h⟩)
          rw [show k - 1 + 1 = k by omega] at e
          exact e
      have HP := hid hP
      have hdec : (decide (0 < k) = false) ∨ (decide (0 < k) = true ∧ ∃ hkl : k - 1 < xs.length, decide (x.fDay < xs[k - 1].fDay) = false) := by
        rcases Nat.eq_zero_or_pos k with h0 | h0
        · left; simp; omega
        · right; refine ⟨by simp; omega, by omega, ?_⟩
          have hb : k - 1 < xs.length := by omega
          rcases Int.lt_or_le x.fDay xs[k - 1].fDay with h | h
          · exact absurd ⟨h0, hb, h⟩ hgo
          · simp; exact h
      clear hP hgo HD
      have HT := hid ((HR.out.src (cellsEntry_len xs) (by omega)).take (k * 4))
      have HU := hid (show SrcAt wr (some ⟨g0, k * 4, none⟩) ((xs.map DEntry.cells).flatten.drop (k * 4)) from (by have := (HR.out.src (cellsEntry_len xs) (by omega)).drop (k * 4); rw [Nat.zero_add] at this; exact this))
      have HFL := hid (flatEntry_length xs)
      have HKL := hid (Nat.mul_le_mul_right 4 hk)
      have g0lt : 0 < xs.length → g0 < wr.heap.size := fun h => by
        obtain ⟨b, o, hb, hlt, _⟩ := HR.out (by intro e; rw [List.map_eq_nil_iff] at e; rw [e] at h; exact absurd h (by simp))
        injection hb with hb
        injection hb with hb
        subst hb
        exact hlt
      have HG := hid g0lt
      clear g0lt
      have HTb := hid (show ∀ w', Below wr.heap.size wr w' → SrcAt w' (some ⟨g0, 0, none⟩) ((xs.map DEntry.cells).flatten.take (k * 4)) from fun w' hb => by
        rcases Nat.eq_zero_or_pos xs.length with h0 | h0
        · have e : xs = [] := List.eq_nil_of_length_eq_zero h0
          subst e
          intro h
          simp at h
        · exact HT.out.below hb (HG.out h0))
      have HUb := hid (show ∀ w', Below wr.heap.size wr w' → SrcAt w' (some ⟨g0, k * 4, none⟩) ((xs.map DEntry.cells).flatten.drop (k * 4)) from fun w' hb => by
        rcases Nat.eq_zero_or_pos xs.length with h0 | h0
        · have e : xs = [] := List.eq_nil_of_length_eq_zero h0
          subst e
          intro h
          simp at h
        · exact HU.out.below hb (HG.out h0))
      have HRb := hid (show ∀ w', Below wr.heap.size wr w' → RowsAt w' 4 (some ⟨g0, 0, none⟩) (xs.map DEntry.cells) from fun w' hb => HR.out.below hb)
      have x0 : (0 : Int) ≤ (k : Int) := by omega
      have x1 : (k : Int) ≤ xs.length := by omega
      rcases hdec with e0 | ⟨e0, hkl, d2⟩
      rotate_left
      · have hk0 : 0 < k := by simpa using e0
        have hcell : wr.cell? ⟨g0, (k - 1) * 4, none⟩ = some (.int .i64 xs[k - 1].fDay) := HR.out.at0 (k - 1) (by rw [List.getElem?_map, List.getElem?_eq_getElem hkl]; rfl) rfl
        have e2 : IntKind.i64.wrap ((k : Int) - 1) = (k : Int) - 1 := IntWalk.i64_in _ (by omega)
        have e4 : ((k : Int) - 1).toNat = k - 1 := by omega
        have e5 : (k : Int) - 1 < xs.length := by omega
        have e6 : (1 : Int) ≤ (k : Int) := by omega
        have e7 : (0 : Int) ≤ (k : Int) - 1 := by omega
        go_wp2_with fail
        go_quiet (fail)
        clear hcell e2 e4 e5 e6 e7 d2 e0 hk0
        go_wp2_with fail
        go_region_with (first | (go_at_call 151; refine (cloneEntry_ok _ _ xs _ (HRb.out _ (by first | exact Below.refl _ _ | exact (Below.refl _ _).drew | exact below_drewN' (Below.refl _ _) _ | exact (below_drewN' (Below.refl _ _) _).drew | exact (below_drewN' (Below.refl _ _) _).alloc (Nat.le_refl _) _ | exact below_drewN' (below_alloc _ _) _ | exact (below_drewN' (below_alloc _ _) _).drew | exact ((below_drewN' (Below.refl _ _) _).alloc (Nat.le_refl _) _).drew | exact (below_drewN' (Below.refl _ _) _).drew.alloc (Nat.le_refl _) _)) hn (fun h => by cases h)).mono ?_; rintro e w5 ⟨g5, rfl, ho5, hb5⟩; have hbc := hid (show Below wr.heap.size wr w5 from below_trans (by first | exact Below.refl _ _ | exact (Below.refl _ _).drew | exact below_drewN' (Below.refl _ _) _ | exact (below_drewN' (Below.refl _ _) _).drew | exact (below_drewN' (Below.refl _ _) _).alloc (Nat.le_refl _) _ | exact below_drewN' (below_alloc _ _) _ | exact (below_drewN' (below_alloc _ _) _).drew | exact ((below_drewN' (Below.refl _ _) _).alloc (Nat.le_refl _) _).drew | exact (below_drewN' (Below.refl _ _) _).drew.alloc (Nat.le_refl _) _) hb5); have HY := HH.out.below hbc.out; have kk0 := HY.2 0 _ rfl; have kk1 := HY.2 1 _ rfl; have kk2 := HY.2 2 _ rfl; have kk3 := HY.2 3 _ rfl; clear HY) | (go_at_call 150; refine (insertEntry_ok _ k _ _ _ xs x _ (by first | exact ho5 | exact ho5.alloc _) hk (by first | exact (HasC.new _ [.int .i64 x.fDay, .string x.fDebit, .string x.fCredit, .int .i64 x.fAmount] _).2 | exact ((HasC.new _ [.int .i64 x.fDay, .string x.fDebit, .string x.fCredit, .int .i64 x.fAmount] _).below hb5).2) (by first | exact (HasC.new _ [.int .i64 x.fDay, .string x.fDebit, .string x.fCredit, .int .i64 x.fAmount] _).1 | exact ((HasC.new _ [.int .i64 x.fDay, .string x.fDebit, .string x.fCredit, .int .i64 x.fAmount] _).below hb5).1) hn (by first | exact hb5.size | exact Nat.le_trans hb5.size (by simp))).mono ?_; rintro e w6 ⟨A6, c6, rfl, ho6, hb6⟩))
        all_goals
          go_wp2_with fail
          go_ret2
          refine RetEntryC.own (v := .slice A6 (xs.length + 1) c6) (n := xs.length + 1) HF.out (by rw [HP.out, insEntry_length hk]) (by rw [HP.out]; exact own_mono ho6 (by have := BW.out.size; first | exact this | (simp; omega))) (below_up BW.out BW.out.size (by first | exact hbc.out.trans (hb6.mono (by first | exact Nat.le_refl _ | simp)) | exact (hbc.out.alloc hbc.out.size _).trans (hb6.mono (by first | exact Nat.le_refl _ | simp))))
      · go_wp2_with fail
        go_quiet (fail)
        clear e0
        go_wp2_with fail
        go_region_with (first | (go_at_call 151; refine (cloneEntry_ok _ _ xs _ (HRb.out _ (by first | exact Below.refl _ _ | exact (Below.refl _ _).drew | exact below_drewN' (Below.refl _ _) _ | exact (below_drewN' (Below.refl _ _) _).drew | exact (below_drewN' (Below.refl _ _) _).alloc (Nat.le_refl _) _ | exact below_drewN' (below_alloc _ _) _ | exact (below_drewN' (below_alloc _ _) _).drew | exact ((below_drewN' (Below.refl _ _) _).alloc (Nat.le_refl _) _).drew | exact (below_drewN' (Below.refl _ _) _).drew.alloc (Nat.le_refl _) _)) hn (fun h => by cases h)).mono ?_; rintro e w5 ⟨g5, rfl, ho5, hb5⟩; have hbc := hid (show Below wr.heap.size wr w5 from below_trans (by first | exact Below.refl _ _ | exact (Below.refl _ _).drew | exact below_drewN' (Below.refl _ _) _ | exact (below_drewN' (Below.refl _ _) _).drew | exact (below_drewN' (Below.refl _ _) _).alloc (Nat.le_refl _) _ | exact below_drewN' (below_alloc _ _) _ | exact (below_drewN' (below_alloc _ _) _).drew | exact ((below_drewN' (Below.refl _ _) _).alloc (Nat.le_refl _) _).drew | exact (below_drewN' (Below.refl _ _) _).drew.alloc (Nat.le_refl _) _) hb5); have HY := HH.out.below hbc.out; have kk0 := HY.2 0 _ rfl; have kk1 := HY.2 1 _ rfl; have kk2 := HY.2 2 _ rfl; have kk3 := HY.2 3 _ rfl; clear HY) | (go_at_call 150; refine (insertEntry_ok _ k _ _ _ xs x _ (by first | exact ho5 | exact ho5.alloc _) hk (by first | exact (HasC.new _ [.int .i64 x.fDay, .string x.fDebit, .string x.fCredit, .int .i64 x.fAmount] _).2 | exact ((HasC.new _ [.int .i64 x.fDay, .string x.fDebit, .string x.fCredit, .int .i64 x.fAmount] _).below hb5).2) (by first | exact (HasC.new _ [.int .i64 x.fDay, .string x.fDebit, .string x.fCredit, .int .i64 x.fAmount] _).1 | exact ((HasC.new _ [.int .i64 x.fDay, .string x.fDebit, .string x.fCredit, .int .i64 x.fAmount] _).below hb5).1) hn (by first | exact hb5.size | exact Nat.le_trans hb5.size (by simp))).mono ?_; rintro e w6 ⟨A6, c6, rfl, ho6, hb6⟩))
        all_goals
          go_wp2_with fail
          go_ret2
          refine RetEntryC.own (v := .slice A6 (xs.length + 1) c6) (n := xs.length + 1) HF.out (by rw [HP.out, insEntry_length hk]) (by rw [HP.out]; exact own_mono ho6 (by have := BW.out.size; first | exact this | (simp; omega))) (below_up BW.out BW.out.size (by first | exact hbc.out.trans (hb6.mono (by first | exact Nat.le_refl _ | simp)) | exact (hbc.out.alloc hbc.out.size _).trans (hb6.mono (by first | exact Nat.le_refl _ | simp))))

set_option maxHeartbeats 1600000 in
set_option maxRecDepth 100000 in
theorem specAddEntry_ok (g0 : Nat) (xs : List DEntry) (x : DEntry) (w : World) (hA : RowsAt w 4 (some ⟨g0, 0, none⟩) (xs.map DEntry.cells)) (hok : ∀ x ∈ xs, x.ok) (hn : xs.length ≤ 1048576) (hxo : x.ok) :
    Calls Try.prog 62 #[.slice (some ⟨g0, 0, none⟩) xs.length xs.length, .agg #[.int .i64 x.fDay, .string x.fDebit, .string x.fCredit, .int .i64 x.fAmount]] w (RetEntryC w (fAddEntry xs x)) := by
  have HX0 := hid (HasC.new w [.int .i64 x.fDay, .string x.fDebit, .string x.fCredit, .int .i64 x.fAmount] 85)
  have HAA := hid hA
  have HA := hid (hA.below (below_alloc w (.cells #[.int .i64 x.fDay, .string x.fDebit, .string x.fCredit, .int .i64 x.fAmount] 85)))
  have HK := hid hok
  have hx := hid hxo
  clear hA hok hxo
  cases c1 : entrysB xs
  · have HF := hid (show fAddEntry xs x = ([], 1) by unfold fAddEntry; rw [if_pos c1])
    go_enter Try.func62, Try.ntmps62
    go_wp2_with fail
    refine (l25Ok_ok _ _ xs _ HA.out HK.out hn).mono ?_
    rintro e w1 ⟨rfl, hb⟩
    have HX1 := hid (HX0.out.below hb)
    have k0 := HX1.out.2 0 _ rfl
    have k1 := HX1.out.2 1 _ rfl
    have k2 := HX1.out.2 2 _ rfl
    have k3 := HX1.out.2 3 _ rfl
    have B1 := hid (below_chain hb (Below.refl _ _))
    clear hb
    go_wp2_with fail
    go_ret2
    exact RetEntryC.nil HF.out B1.out
  cases c2 : entryD x
  · have HF := hid (show fAddEntry xs x = ([], 1) by unfold fAddEntry; rw [if_neg (by rw [c1]; exact fun h => by cases h), if_pos c2])
    go_enter Try.func62, Try.ntmps62
    go_wp2_with fail
    refine (l25Ok_ok _ _ xs _ HA.out HK.out hn).mono ?_
    rintro e w1 ⟨rfl, hb⟩
    have HX1 := hid (HX0.out.below hb)
    have k0 := HX1.out.2 0 _ rfl
    have k1 := HX1.out.2 1 _ rfl
    have k2 := HX1.out.2 2 _ rfl
    have k3 := HX1.out.2 3 _ rfl
    have B1 := hid (below_chain hb (Below.refl _ _))
    clear hb
    go_wp2_with (go_at_call 147; refine (entryW_ok x _ _ _ hx.out k0 k1 k2 k3).mono ?_; rintro e w2 ⟨rfl, hb2⟩)
    go_ret2
    exact RetEntryC.nil HF.out (below_trans B1.out hb2)
  by_cases c3 : xs.length = 32
  · have HF := hid (show fAddEntry xs x = ([], 5) by unfold fAddEntry; rw [if_neg (by rw [c1]; exact fun h => by cases h), if_neg (by rw [c2]; exact fun h => by cases h), if_pos c3])
    have e3 : ((xs.length : Int) == 32) = true := by rw [beq_iff_eq]; omega
    have C3 := hid c3
    clear c3
    go_enter Try.func62, Try.ntmps62
    go_wp2_with fail
    refine (l25Ok_ok _ _ xs _ HA.out HK.out hn).mono ?_
    rintro e w1 ⟨rfl, hb⟩
    have HX1 := hid (HX0.out.below hb)
    have k0 := HX1.out.2 0 _ rfl
    have k1 := HX1.out.2 1 _ rfl
    have k2 := HX1.out.2 2 _ rfl
    have k3 := HX1.out.2 3 _ rfl
    have B1 := hid (below_chain hb (Below.refl _ _))
    clear hb
    go_wp2_with (go_at_call 147; refine (entryW_ok x _ _ _ hx.out k0 k1 k2 k3).mono ?_; rintro e w2 ⟨rfl, hb2⟩)
    go_ret2
    exact RetEntryC.nil HF.out (below_trans B1.out hb2)
  have HF := hid (show fAddEntry xs x = (insEntry xs (dnE x.fDay xs xs.length) x, 0) by unfold fAddEntry; rw [if_neg (by rw [c1]; exact fun h => by cases h), if_neg (by rw [c2]; exact fun h => by cases h), if_neg c3])
  have e3 : ((xs.length : Int) == 32) = false := by rw [beq_eq_false_iff_ne]; omega
  have e3' : ¬ ((xs.length : Int) = 32) := by omega
  clear c3
  go_enter Try.func62, Try.ntmps62
  go_wp2_with fail
  refine (l25Ok_ok _ _ xs _ HA.out HK.out hn).mono ?_
  rintro e w1 ⟨rfl, hb⟩
  have HX1 := hid (HX0.out.below hb)
  have k0 := HX1.out.2 0 _ rfl
  have k1 := HX1.out.2 1 _ rfl
  have k2 := HX1.out.2 2 _ rfl
  have k3 := HX1.out.2 3 _ rfl
  have B1 := hid (below_chain hb (Below.refl _ _))
  clear hb
  go_wp2_with (go_at_call 147; refine (entryW_ok x _ _ _ hx.out k0 k1 k2 k3).mono ?_; rintro e w2 ⟨rfl, hb2⟩; have HX2 := hid (HX1.out.below hb2); have B2 := hid (below_trans B1.out hb2); clear hb2 k0 k1 k2 k3)
  have BX := hid (show Below (w.alloc (.cells #[.int .i64 x.fDay, .string x.fDebit, .string x.fCredit, .int .i64 x.fAmount] 85)).heap.size (w.alloc (.cells #[.int .i64 x.fDay, .string x.fDebit, .string x.fCredit, .int .i64 x.fAmount] 85)) w1 → True from fun _ => trivial)
  clear BX HX1 HX0 B1
  obtain ⟨wo, rfl⟩ : ∃ wo : World, wo = w2 := ⟨_, rfl⟩
  go_loopw [6] (fun i wr => ∃ k : Nat, k ≤ xs.length ∧ i = .int .i64 k ∧ dnE x.fDay xs k = dnE x.fDay xs xs.length ∧ HasC wr w.heap.size [.int .i64 x.fDay, .string x.fDebit, .string x.fCredit, .int .i64 x.fAmount] ∧ Below w.heap.size w wr) (fun i _ => (intOf i).toNat)
  case atStart => exact ⟨xs.length, Nat.le_refl _, rfl, rfl, HX2.out, B2.out⟩
  case round =>
    obtain ⟨k, hk, rfl, hdn, hhc, hbel⟩ := hrel
    have HD := hid hdn
    have HH := hid hhc
    have BW := hid hbel
    have HR := hid (HAA.out.below hbel)
    clear hdn hhc hbel
    have k0 := HH.out.2 0 _ rfl
    have k1 := HH.out.2 1 _ rfl
    have k2 := HH.out.2 2 _ rfl
    have k3 := HH.out.2 3 _ rfl
    by_cases hgo : 0 < k ∧ ∃ h : k - 1 < xs.length, x.fDay < xs[k - 1].fDay
    · obtain ⟨hk0, hkl, hday⟩ := hgo
      have HS := hid (show dnE x.fDay xs (k - 1) = dnE x.fDay xs xs.length by rw [← HD.out]; have e := dnE_yes hkl hday; rw [show k - 1 + 1 = k by omega] at e; exact e.symm)
      have hcell : wr.cell? ⟨g0, (k - 1) * 4, none⟩ = some (.int .i64 xs[k - 1].fDay) := HR.out.at0 (k - 1) (by rw [List.getElem?_map, List.getElem?_eq_getElem hkl]; rfl) rfl
      have e0 : decide (0 < k) = true := by simp; omega
      have e2 : IntKind.i64.wrap ((k : Int) - 1) = (k : Int) - 1 := IntWalk.i64_in _ (by omega)
      have e4 : ((k : Int) - 1).toNat = k - 1 := by omega
      have e5 : (k : Int) - 1 < xs.length := by omega
      have e6 : (1 : Int) ≤ (k : Int) := by omega
      have e7 : (0 : Int) ≤ (k : Int) - 1 := by omega
      have d2 : decide (x.fDay < xs[k - 1].fDay) = true := by simp; omega
      go_wp2_with fail
      go_quiet (fail)
      go_wp2_with fail
      go_roundw
      case rel => exact ⟨k - 1, by omega, by go_num, HS.out, HH.out, below_drewN' BW.out _⟩
      case measure => simp [intOf]; omega
    · have hP : dnE x.fDay xs xs.length = k := by
        rw [← HD.out]
        rcases Nat.eq_zero_or_pos k with h0 | h0
        · subst h0; rfl
        · have e := dnE_no (d := x.fDay) (xs := xs) (k := k - 1) (by omega) (fun h => hgo ⟨h0, by omega, h⟩)
          rw [show k - 1 + 1 = k by omega] at e
          exact e
      have HP := hid hP
      have hdec : (decide (0 < k) = false) ∨ (decide (0 < k) = true ∧ ∃ hkl : k - 1 < xs.length, decide (x.fDay < xs[k - 1].fDay) = false) := by
        rcases Nat.eq_zero_or_pos k with h0 | h0
        · left; simp; omega
        · right; refine ⟨by simp; omega, by omega, ?_⟩
          have hb : k - 1 < xs.length := by omega
          rcases Int.lt_or_le x.fDay xs[k - 1].fDay with h | h
          · exact absurd ⟨h0, hb, h⟩ hgo
          · simp; exact h
      clear hP hgo HD
      have HT := hid ((HR.out.src (cellsEntry_len xs) (by omega)).take (k * 4))
      have HU := hid (show SrcAt wr (some ⟨g0, k * 4, none⟩) ((xs.map DEntry.cells).flatten.drop (k * 4)) from (by have := (HR.out.src (cellsEntry_len xs) (by omega)).drop (k * 4); rw [Nat.zero_add] at this; exact this))
      have HFL := hid (flatEntry_length xs)
      have HKL := hid (Nat.mul_le_mul_right 4 hk)
      have g0lt : 0 < xs.length → g0 < wr.heap.size := fun h => by
        obtain ⟨b, o, hb, hlt, _⟩ := HR.out (by intro e; rw [List.map_eq_nil_iff] at e; rw [e] at h; exact absurd h (by simp))
        injection hb with hb
        injection hb with hb
        subst hb
        exact hlt
      have HG := hid g0lt
      clear g0lt
      have HTb := hid (show ∀ w', Below wr.heap.size wr w' → SrcAt w' (some ⟨g0, 0, none⟩) ((xs.map DEntry.cells).flatten.take (k * 4)) from fun w' hb => by
        rcases Nat.eq_zero_or_pos xs.length with h0 | h0
        · have e : xs = [] := List.eq_nil_of_length_eq_zero h0
          subst e
          intro h
          simp at h
        · exact HT.out.below hb (HG.out h0))
      have HUb := hid (show ∀ w', Below wr.heap.size wr w' → SrcAt w' (some ⟨g0, k * 4, none⟩) ((xs.map DEntry.cells).flatten.drop (k * 4)) from fun w' hb => by
        rcases Nat.eq_zero_or_pos xs.length with h0 | h0
        · have e : xs = [] := List.eq_nil_of_length_eq_zero h0
          subst e
          intro h
          simp at h
        · exact HU.out.below hb (HG.out h0))
      have HRb := hid (show ∀ w', Below wr.heap.size wr w' → RowsAt w' 4 (some ⟨g0, 0, none⟩) (xs.map DEntry.cells) from fun w' hb => HR.out.below hb)
      have x0 : (0 : Int) ≤ (k : Int) := by omega
      have x1 : (k : Int) ≤ xs.length := by omega
      rcases hdec with e0 | ⟨e0, hkl, d2⟩
      rotate_left
      · have hk0 : 0 < k := by simpa using e0
        have hcell : wr.cell? ⟨g0, (k - 1) * 4, none⟩ = some (.int .i64 xs[k - 1].fDay) := HR.out.at0 (k - 1) (by rw [List.getElem?_map, List.getElem?_eq_getElem hkl]; rfl) rfl
        have e2 : IntKind.i64.wrap ((k : Int) - 1) = (k : Int) - 1 := IntWalk.i64_in _ (by omega)
        have e4 : ((k : Int) - 1).toNat = k - 1 := by omega
        have e5 : (k : Int) - 1 < xs.length := by omega
        have e6 : (1 : Int) ≤ (k : Int) := by omega
        have e7 : (0 : Int) ≤ (k : Int) - 1 := by omega
        go_wp2_with fail
        go_quiet (fail)
        clear hcell e2 e4 e5 e6 e7 d2 e0 hk0
        rcases Nat.lt_or_ge k xs.length with hkn | hkn
        · have hne : ¬ (xs.length = k) := by omega
          go_wp2_with (first | (at_builtin; refine wpList_app_src (w0 := wr) rfl (.tmp 35) (.tmp 38) 81 rfl wr.heap.size 85 (.agg #[.int .i64 0, .string ⟨#[]⟩, .string ⟨#[]⟩, .int .i64 0]) 4 48 Try.underlying81 infoEntry rfl (by decide) _ 0 [] rfl (World.ownsRow_lit _ _ 0 (by simp) (by unfold maxLen; omega) rfl) (some ⟨g0, 0, none⟩) k xs.length ((xs.map DEntry.cells).flatten.take (k * 4)) rfl (by have := HFL.out; have := HKL.out; rw [List.length_take]; omega) (fun h => by cases h) (HTb.out _ (by first | exact Below.refl _ _ | exact (Below.refl _ _).drew | exact below_drewN' (Below.refl _ _) _ | exact (below_drewN' (Below.refl _ _) _).drew | exact (below_drewN' (Below.refl _ _) _).alloc (Nat.le_refl _) _ | exact below_drewN' (below_alloc _ _) _ | exact (below_drewN' (below_alloc _ _) _).drew | exact ((below_drewN' (Below.refl _ _) _).alloc (Nat.le_refl _) _).drew | exact (below_drewN' (Below.refl _ _) _).drew.alloc (Nat.le_refl _) _)) (fun u hu => oneEntry xs u (List.mem_of_mem_take hu)) (by omega) (by simp) (by first | exact Below.refl _ _ | exact (Below.refl _ _).drew | exact below_drewN' (Below.refl _ _) _ | exact (below_drewN' (Below.refl _ _) _).drew | exact (below_drewN' (Below.refl _ _) _).alloc (Nat.le_refl _) _ | exact below_drewN' (below_alloc _ _) _ | exact (below_drewN' (below_alloc _ _) _).drew | exact ((below_drewN' (Below.refl _ _) _).alloc (Nat.le_refl _) _).drew | exact (below_drewN' (Below.refl _ _) _).drew.alloc (Nat.le_refl _) _) ?_; intro v1 w1 hown1 hb1 hz1; simp only [Nat.zero_add, List.nil_append] at hown1; have HY := HH.out.below hb1; have kk0 := HY.2 0 _ rfl; have kk1 := HY.2 1 _ rfl; have kk2 := HY.2 2 _ rfl; have kk3 := HY.2 3 _ rfl; clear HY) | (at_builtin; refine wpList_app (w0 := wr) rfl (.tmp 40) (.tmp 42) 81 rfl wr.heap.size 85 (.agg #[.int .i64 0, .string ⟨#[]⟩, .string ⟨#[]⟩, .int .i64 0]) 4 48 Try.underlying81 infoEntry rfl (by decide) _ k _ rfl hown1 #[.int .i64 x.fDay, .string x.fDebit, .string x.fCredit, .int .i64 x.fAmount] 1 1 rfl rfl (by intro u hu; exact oneEntry [x] u (by simpa [DEntry.cells] using hu)) (by omega) hb1.size hb1 ?_; intro v2 w2 hown2 hb2 hz2 hgr2; clear hgr2 kk0 kk1 kk2 kk3) | (at_builtin; refine wpList_app_src (w0 := wr) rfl (.tmp 44) (.tmp 47) 81 rfl wr.heap.size 85 (.agg #[.int .i64 0, .string ⟨#[]⟩, .string ⟨#[]⟩, .int .i64 0]) 4 48 Try.underlying81 infoEntry rfl (by decide) _ (k + 1) _ rfl hown2 (some ⟨g0, k * 4, none⟩) (xs.length - k) (xs.length - k) ((xs.map DEntry.cells).flatten.drop (k * 4)) rfl (by have := HFL.out; rw [List.length_drop]; omega) (fun h => by cases h) (HUb.out _ hb2) (fun u hu => oneEntry xs u (List.mem_of_mem_drop hu)) (by omega) hb2.size hb2 ?_; intro v3 w3 hown3 hb3 hz3))
          go_ret2
          refine RetEntryC.own (v := v3) (n := k + 1 + (xs.length - k)) HF.out (by rw [HP.out, insEntry_length hk]; omega) (own_mono (B := wr.heap.size) ?_ BW.out.size) (below_up BW.out BW.out.size hb3)
          rw [HP.out, insEntry_flat]
          exact hown3
        · obtain rfl : k = xs.length := by omega
          go_wp2_with (first | (at_builtin; refine wpList_app_src (w0 := wr) rfl (.tmp 35) (.tmp 38) 81 rfl wr.heap.size 85 (.agg #[.int .i64 0, .string ⟨#[]⟩, .string ⟨#[]⟩, .int .i64 0]) 4 48 Try.underlying81 infoEntry rfl (by decide) _ 0 [] rfl (World.ownsRow_lit _ _ 0 (by simp) (by unfold maxLen; omega) rfl) (some ⟨g0, 0, none⟩) xs.length xs.length ((xs.map DEntry.cells).flatten.take (xs.length * 4)) rfl (by have := HFL.out; have := HKL.out; rw [List.length_take]; omega) (fun h => by cases h) (HTb.out _ (by first | exact Below.refl _ _ | exact (Below.refl _ _).drew | exact below_drewN' (Below.refl _ _) _ | exact (below_drewN' (Below.refl _ _) _).drew | exact (below_drewN' (Below.refl _ _) _).alloc (Nat.le_refl _) _ | exact below_drewN' (below_alloc _ _) _ | exact (below_drewN' (below_alloc _ _) _).drew | exact ((below_drewN' (Below.refl _ _) _).alloc (Nat.le_refl _) _).drew | exact (below_drewN' (Below.refl _ _) _).drew.alloc (Nat.le_refl _) _)) (fun u hu => oneEntry xs u (List.mem_of_mem_take hu)) (by omega) (by simp) (by first | exact Below.refl _ _ | exact (Below.refl _ _).drew | exact below_drewN' (Below.refl _ _) _ | exact (below_drewN' (Below.refl _ _) _).drew | exact (below_drewN' (Below.refl _ _) _).alloc (Nat.le_refl _) _ | exact below_drewN' (below_alloc _ _) _ | exact (below_drewN' (below_alloc _ _) _).drew | exact ((below_drewN' (Below.refl _ _) _).alloc (Nat.le_refl _) _).drew | exact (below_drewN' (Below.refl _ _) _).drew.alloc (Nat.le_refl _) _) ?_; intro v1 w1 hown1 hb1 hz1; simp only [Nat.zero_add, List.nil_append] at hown1; have HY := HH.out.below hb1; have kk0 := HY.2 0 _ rfl; have kk1 := HY.2 1 _ rfl; have kk2 := HY.2 2 _ rfl; have kk3 := HY.2 3 _ rfl; clear HY) | (at_builtin; refine wpList_app (w0 := wr) rfl (.tmp 40) (.tmp 42) 81 rfl wr.heap.size 85 (.agg #[.int .i64 0, .string ⟨#[]⟩, .string ⟨#[]⟩, .int .i64 0]) 4 48 Try.underlying81 infoEntry rfl (by decide) _ xs.length _ rfl hown1 #[.int .i64 x.fDay, .string x.fDebit, .string x.fCredit, .int .i64 x.fAmount] 1 1 rfl rfl (by intro u hu; exact oneEntry [x] u (by simpa [DEntry.cells] using hu)) (by omega) hb1.size hb1 ?_; intro v2 w2 hown2 hb2 hz2 hgr2; clear hgr2 kk0 kk1 kk2 kk3) | (at_builtin; refine wpList_app_src (w0 := wr) rfl (.tmp 44) (.tmp 47) 81 rfl wr.heap.size 85 (.agg #[.int .i64 0, .string ⟨#[]⟩, .string ⟨#[]⟩, .int .i64 0]) 4 48 Try.underlying81 infoEntry rfl (by decide) _ (xs.length + 1) _ rfl hown2 (some ⟨g0, 0, none⟩) 0 0 [] rfl rfl (fun h => by cases h) (SrcAt.nil _ _) (fun u hu => by cases hu) (by omega) hb2.size hb2 ?_; intro v3 w3 hown3 hb3 hz3))
          go_ret2
          refine RetEntryC.own (v := v3) (n := xs.length + 1 + 0) HF.out (by rw [HP.out, insEntry_length hk]) (own_mono (B := wr.heap.size) ?_ BW.out.size) (below_up BW.out BW.out.size hb3)
          rw [HP.out, insEntry_flat]
          rw [List.drop_of_length_le (by rw [HFL.out]; exact Nat.le_refl _)]; exact hown3
      · go_wp2_with fail
        go_quiet (fail)
        clear e0
        rcases Nat.lt_or_ge k xs.length with hkn | hkn
        · have hne : ¬ (xs.length = k) := by omega
          go_wp2_with (first | (at_builtin; refine wpList_app_src (w0 := wr) rfl (.tmp 35) (.tmp 38) 81 rfl wr.heap.size 85 (.agg #[.int .i64 0, .string ⟨#[]⟩, .string ⟨#[]⟩, .int .i64 0]) 4 48 Try.underlying81 infoEntry rfl (by decide) _ 0 [] rfl (World.ownsRow_lit _ _ 0 (by simp) (by unfold maxLen; omega) rfl) (some ⟨g0, 0, none⟩) k xs.length ((xs.map DEntry.cells).flatten.take (k * 4)) rfl (by have := HFL.out; have := HKL.out; rw [List.length_take]; omega) (fun h => by cases h) (HTb.out _ (by first | exact Below.refl _ _ | exact (Below.refl _ _).drew | exact below_drewN' (Below.refl _ _) _ | exact (below_drewN' (Below.refl _ _) _).drew | exact (below_drewN' (Below.refl _ _) _).alloc (Nat.le_refl _) _ | exact below_drewN' (below_alloc _ _) _ | exact (below_drewN' (below_alloc _ _) _).drew | exact ((below_drewN' (Below.refl _ _) _).alloc (Nat.le_refl _) _).drew | exact (below_drewN' (Below.refl _ _) _).drew.alloc (Nat.le_refl _) _)) (fun u hu => oneEntry xs u (List.mem_of_mem_take hu)) (by omega) (by simp) (by first | exact Below.refl _ _ | exact (Below.refl _ _).drew | exact below_drewN' (Below.refl _ _) _ | exact (below_drewN' (Below.refl _ _) _).drew | exact (below_drewN' (Below.refl _ _) _).alloc (Nat.le_refl _) _ | exact below_drewN' (below_alloc _ _) _ | exact (below_drewN' (below_alloc _ _) _).drew | exact ((below_drewN' (Below.refl _ _) _).alloc (Nat.le_refl _) _).drew | exact (below_drewN' (Below.refl _ _) _).drew.alloc (Nat.le_refl _) _) ?_; intro v1 w1 hown1 hb1 hz1; simp only [Nat.zero_add, List.nil_append] at hown1; have HY := HH.out.below hb1; have kk0 := HY.2 0 _ rfl; have kk1 := HY.2 1 _ rfl; have kk2 := HY.2 2 _ rfl; have kk3 := HY.2 3 _ rfl; clear HY) | (at_builtin; refine wpList_app (w0 := wr) rfl (.tmp 40) (.tmp 42) 81 rfl wr.heap.size 85 (.agg #[.int .i64 0, .string ⟨#[]⟩, .string ⟨#[]⟩, .int .i64 0]) 4 48 Try.underlying81 infoEntry rfl (by decide) _ k _ rfl hown1 #[.int .i64 x.fDay, .string x.fDebit, .string x.fCredit, .int .i64 x.fAmount] 1 1 rfl rfl (by intro u hu; exact oneEntry [x] u (by simpa [DEntry.cells] using hu)) (by omega) hb1.size hb1 ?_; intro v2 w2 hown2 hb2 hz2 hgr2; clear hgr2 kk0 kk1 kk2 kk3) | (at_builtin; refine wpList_app_src (w0 := wr) rfl (.tmp 44) (.tmp 47) 81 rfl wr.heap.size 85 (.agg #[.int .i64 0, .string ⟨#[]⟩, .string ⟨#[]⟩, .int .i64 0]) 4 48 Try.underlying81 infoEntry rfl (by decide) _ (k + 1) _ rfl hown2 (some ⟨g0, k * 4, none⟩) (xs.length - k) (xs.length - k) ((xs.map DEntry.cells).flatten.drop (k * 4)) rfl (by have := HFL.out; rw [List.length_drop]; omega) (fun h => by cases h) (HUb.out _ hb2) (fun u hu => oneEntry xs u (List.mem_of_mem_drop hu)) (by omega) hb2.size hb2 ?_; intro v3 w3 hown3 hb3 hz3))
          go_ret2
          refine RetEntryC.own (v := v3) (n := k + 1 + (xs.length - k)) HF.out (by rw [HP.out, insEntry_length hk]; omega) (own_mono (B := wr.heap.size) ?_ BW.out.size) (below_up BW.out BW.out.size hb3)
          rw [HP.out, insEntry_flat]
          exact hown3
        · obtain rfl : k = xs.length := by omega
          go_wp2_with (first | (at_builtin; refine wpList_app_src (w0 := wr) rfl (.tmp 35) (.tmp 38) 81 rfl wr.heap.size 85 (.agg #[.int .i64 0, .string ⟨#[]⟩, .string ⟨#[]⟩, .int .i64 0]) 4 48 Try.underlying81 infoEntry rfl (by decide) _ 0 [] rfl (World.ownsRow_lit _ _ 0 (by simp) (by unfold maxLen; omega) rfl) (some ⟨g0, 0, none⟩) xs.length xs.length ((xs.map DEntry.cells).flatten.take (xs.length * 4)) rfl (by have := HFL.out; have := HKL.out; rw [List.length_take]; omega) (fun h => by cases h) (HTb.out _ (by first | exact Below.refl _ _ | exact (Below.refl _ _).drew | exact below_drewN' (Below.refl _ _) _ | exact (below_drewN' (Below.refl _ _) _).drew | exact (below_drewN' (Below.refl _ _) _).alloc (Nat.le_refl _) _ | exact below_drewN' (below_alloc _ _) _ | exact (below_drewN' (below_alloc _ _) _).drew | exact ((below_drewN' (Below.refl _ _) _).alloc (Nat.le_refl _) _).drew | exact (below_drewN' (Below.refl _ _) _).drew.alloc (Nat.le_refl _) _)) (fun u hu => oneEntry xs u (List.mem_of_mem_take hu)) (by omega) (by simp) (by first | exact Below.refl _ _ | exact (Below.refl _ _).drew | exact below_drewN' (Below.refl _ _) _ | exact (below_drewN' (Below.refl _ _) _).drew | exact (below_drewN' (Below.refl _ _) _).alloc (Nat.le_refl _) _ | exact below_drewN' (below_alloc _ _) _ | exact (below_drewN' (below_alloc _ _) _).drew | exact ((below_drewN' (Below.refl _ _) _).alloc (Nat.le_refl _) _).drew | exact (below_drewN' (Below.refl _ _) _).drew.alloc (Nat.le_refl _) _) ?_; intro v1 w1 hown1 hb1 hz1; simp only [Nat.zero_add, List.nil_append] at hown1; have HY := HH.out.below hb1; have kk0 := HY.2 0 _ rfl; have kk1 := HY.2 1 _ rfl; have kk2 := HY.2 2 _ rfl; have kk3 := HY.2 3 _ rfl; clear HY) | (at_builtin; refine wpList_app (w0 := wr) rfl (.tmp 40) (.tmp 42) 81 rfl wr.heap.size 85 (.agg #[.int .i64 0, .string ⟨#[]⟩, .string ⟨#[]⟩, .int .i64 0]) 4 48 Try.underlying81 infoEntry rfl (by decide) _ xs.length _ rfl hown1 #[.int .i64 x.fDay, .string x.fDebit, .string x.fCredit, .int .i64 x.fAmount] 1 1 rfl rfl (by intro u hu; exact oneEntry [x] u (by simpa [DEntry.cells] using hu)) (by omega) hb1.size hb1 ?_; intro v2 w2 hown2 hb2 hz2 hgr2; clear hgr2 kk0 kk1 kk2 kk3) | (at_builtin; refine wpList_app_src (w0 := wr) rfl (.tmp 44) (.tmp 47) 81 rfl wr.heap.size 85 (.agg #[.int .i64 0, .string ⟨#[]⟩, .string ⟨#[]⟩, .int .i64 0]) 4 48 Try.underlying81 infoEntry rfl (by decide) _ (xs.length + 1) _ rfl hown2 (some ⟨g0, 0, none⟩) 0 0 [] rfl rfl (fun h => by cases h) (SrcAt.nil _ _) (fun u hu => by cases hu) (by omega) hb2.size hb2 ?_; intro v3 w3 hown3 hb3 hz3))
          go_ret2
          refine RetEntryC.own (v := v3) (n := xs.length + 1 + 0) HF.out (by rw [HP.out, insEntry_length hk]) (own_mono (B := wr.heap.size) ?_ BW.out.size) (below_up BW.out BW.out.size hb3)
          rw [HP.out, insEntry_flat]
          rw [List.drop_of_length_le (by rw [HFL.out]; exact Nat.le_refl _)]; exact hown3

end Go.Proofs.Ytnekigpeknenjaa
