/- AddPaper and its reference. -/
import Derived.Test.YtnekigpeknenjaaIPaper
import Derived.Test.YtnekigpeknenjaaVPaper
import Derived.Test.YtnekigpeknenjaaRange
namespace Go.Proofs.Ytnekigpeknenjaa
open Go.RowKit
set_option linter.unusedVariables false

/-- a list in new memory and a code -/
def RetPaperC (w : World) (r : List DPaper × Int) (e : Ending) (w' : World) : Prop :=
  ∃ A c, e = .returned (.tuple #[.slice A r.1.length c, .int .i64 r.2]) ∧ w'.ownsRow w.heap.size 99 5 (.slice A r.1.length c) r.1.length (r.1.map DPaper.cells).flatten ∧ (A = none → c = 0) ∧ Below w.heap.size w w'
theorem RetPaperC.nil {w w' : World} {r : List DPaper × Int} {c : Int} (h : r = ([], c)) (hb : Below w.heap.size w w') : RetPaperC w r (.returned (.tuple #[.slice none 0 0, .int .i64 c])) w' := by
  subst h
  exact ⟨none, 0, rfl, World.ownsRow_nil _ _ _ _, fun _ => rfl, hb⟩
theorem RetPaperC.own {w w' : World} {r : List DPaper × Int} {c : Int} {v : Value} {l : List DPaper} {n : Nat} (h : r = (l, c)) (hn : n = l.length) (ho : w'.ownsRow w.heap.size 99 5 v n (l.map DPaper.cells).flatten) (hb : Below w.heap.size w w') : RetPaperC w r (.returned (.tuple #[v, .int .i64 c])) w' := by
  subst h hn
  obtain ⟨h1, h2⟩ := ho
  rcases h2 with ⟨rfl, h0⟩ | ⟨g, cap, cur, rfl, r⟩
  · have : l = [] := by simpa using h0
    subst this
    exact ⟨none, 0, rfl, World.ownsRow_nil _ _ _ _, fun _ => rfl, hb⟩
  · exact ⟨_, _, rfl, ⟨h1, .inr ⟨g, cap, cur, rfl, r⟩⟩, fun h => (by cases h), hb⟩


/-- y's name comes before the name -/
def lessP (id : ByteArray) (y : DPaper) : Bool := Op.bytesLess y.fId.toList id.toList
/-- the place before which every name comes before the name -/
def upP (id : ByteArray) (xs : List DPaper) : Nat := (xs.takeWhile (lessP id)).length
theorem upP_at {id : ByteArray} : ∀ {xs : List DPaper} {k : Nat}, (∀ j (h : j < xs.length), j < k → lessP id xs[j] = true) → k ≤ xs.length → (∀ h : k < xs.length, lessP id xs[k] = false) → upP id xs = k
  | [], k, _, hk, _ => by simp at hk; subst hk; rfl
  | y :: r, 0, _, _, h2 => by
    have := h2 (by simp)
    simp at this
    simp [upP, this]
  | y :: r, k + 1, h1, hk, h2 => by
    have h0 := h1 0 (by simp) (by omega)
    simp at h0
    have ih := upP_at (id := id) (xs := r) (k := k) (fun j h hj => by have := h1 (j + 1) (by simpa using h) (by omega); simpa using this) (by simpa using hk) (fun h => by have := h2 (by simpa using h); simpa using this)
    simp [upP, h0] at ih ⊢
    exact ih
theorem upP_le (id : ByteArray) (xs : List DPaper) : upP id xs ≤ xs.length := (List.takeWhile_sublist _).length_le
/-- the name is there -/
def hasP (id : ByteArray) (xs : List DPaper) : Bool := match xs[upP id xs]? with | some y => y.fId.toList == id.toList | none => false
noncomputable def fAddPaper (xs : List DPaper) (x : DPaper) : List DPaper × Int :=
  if papersB xs = false then ([], 1) else if paperD x = false then ([], 2) else if hasP x.fId xs = true then ([], 4) else if xs.length = 12 then ([], 5) else (insPaper xs (upP x.fId xs) x, 0)
theorem fAddPaper_small (xs : List DPaper) (x : DPaper) : (fAddPaper xs x).1.length ≤ 12 := by
  unfold fAddPaper
  split
  · simp
  · split
    · simp
    · split
      · simp
      · split
        · simp
        · rename_i h1 _ _ h3
          have h := (papersB_iff.1 (by simpa using h1)).2
          rw [insPaper_length (upP_le _ _)]
          omega

set_option maxHeartbeats 3200000 in
set_option maxRecDepth 100000 in
theorem implAddPaper_ok (g0 : Nat) (xs : List DPaper) (x : DPaper) (w : World) (hA : RowsAt w 5 (some ⟨g0, 0, none⟩) (xs.map DPaper.cells)) (hok : ∀ x ∈ xs, x.ok) (hn : xs.length ≤ 1048576) (hxo : x.ok) :
    Calls Try.prog 74 #[.slice (some ⟨g0, 0, none⟩) xs.length xs.length, .agg #[.string x.fId, .string x.fMaker, .int .i64 x.fEarly, .int .i64 x.fLate, .int .i64 x.fTrust]] w (RetPaperC w (fAddPaper xs x)) := by
  have HX0 := hid (HasC.new w [.string x.fId, .string x.fMaker, .int .i64 x.fEarly, .int .i64 x.fLate, .int .i64 x.fTrust] 99)
  have HAA := hid hA
  have HA := hid (hA.below (below_alloc w (.cells #[.string x.fId, .string x.fMaker, .int .i64 x.fEarly, .int .i64 x.fLate, .int .i64 x.fTrust] 99)))
  have HK := hid hok
  have hx := hid hxo
  clear hA hok hxo
  cases c1 : papersB xs
  · have HF := hid (show fAddPaper xs x = ([], 1) by unfold fAddPaper; rw [if_pos c1])
    go_enter Try.func74, Try.ntmps74
    go_wp2_with fail
    refine (ValidPapers_ok _ _ xs _ HA.out HK.out hn).mono ?_
    rintro e w1 ⟨rfl, hb⟩
    have HX1 := hid (HX0.out.below hb)
    have k0 := HX1.out.2 0 _ rfl
    have k1 := HX1.out.2 1 _ rfl
    have k2 := HX1.out.2 2 _ rfl
    have k3 := HX1.out.2 3 _ rfl
    have k4 := HX1.out.2 4 _ rfl
    have B1 := hid (below_chain hb (Below.refl _ _))
    clear hb
    go_wp2_with fail
    go_ret2
    exact RetPaperC.nil HF.out B1.out
  cases c2 : paperD x
  · have HF := hid (show fAddPaper xs x = ([], 2) by unfold fAddPaper; rw [if_neg (by rw [c1]; exact fun h => by cases h), if_pos c2])
    go_enter Try.func74, Try.ntmps74
    go_wp2_with fail
    refine (ValidPapers_ok _ _ xs _ HA.out HK.out hn).mono ?_
    rintro e w1 ⟨rfl, hb⟩
    have HX1 := hid (HX0.out.below hb)
    have k0 := HX1.out.2 0 _ rfl
    have k1 := HX1.out.2 1 _ rfl
    have k2 := HX1.out.2 2 _ rfl
    have k3 := HX1.out.2 3 _ rfl
    have k4 := HX1.out.2 4 _ rfl
    have B1 := hid (below_chain hb (Below.refl _ _))
    clear hb
    go_wp2_with (go_at_call 156; refine (paperV_ok x _ hx.out).mono ?_; rintro e w2 ⟨rfl, hb2⟩)
    go_ret2
    exact RetPaperC.nil HF.out (below_trans B1.out hb2)
  go_enter Try.func74, Try.ntmps74
  go_wp2_with fail
  refine (ValidPapers_ok _ _ xs _ HA.out HK.out hn).mono ?_
  rintro e w1 ⟨rfl, hb⟩
  have HX1 := hid (HX0.out.below hb)
  have k0 := HX1.out.2 0 _ rfl
  have k1 := HX1.out.2 1 _ rfl
  have k2 := HX1.out.2 2 _ rfl
  have k3 := HX1.out.2 3 _ rfl
  have k4 := HX1.out.2 4 _ rfl
  have B1 := hid (below_chain hb (Below.refl _ _))
  clear hb
  go_wp2_with (go_at_call 156; refine (paperV_ok x _ hx.out).mono ?_; rintro e w2 ⟨rfl, hb2⟩; have HX2 := hid (HX1.out.below hb2); have B2 := hid (below_trans B1.out hb2); clear hb2 k0 k1 k2 k3 k4)
  clear HX1 HX0 B1
  obtain ⟨wo, rfl⟩ : ∃ wo : World, wo = w2 := ⟨_, rfl⟩
  go_loopw [6] (fun i wr => ∃ k : Nat, k ≤ xs.length ∧ i = .int .i64 k ∧ (∀ j (h : j < xs.length), j < k → lessP x.fId xs[j] = true) ∧ HasC wr w.heap.size [.string x.fId, .string x.fMaker, .int .i64 x.fEarly, .int .i64 x.fLate, .int .i64 x.fTrust] ∧ Below w.heap.size w wr) (fun i _ => xs.length - (intOf i).toNat)
  case atStart => exact ⟨0, Nat.zero_le _, rfl, fun _ _ h => absurd h (by omega), HX2.out, B2.out⟩
  case round =>
    obtain ⟨k, hk, rfl, hall, hhc, hbel⟩ := hrel
    have HD := hid hall
    have HH := hid hhc
    have BW := hid hbel
    have HR := hid (HAA.out.below hbel)
    clear hall hhc hbel
    have k0 := HH.out.2 0 _ rfl
    have k1 := HH.out.2 1 _ rfl
    have k2 := HH.out.2 2 _ rfl
    have k3 := HH.out.2 3 _ rfl
    have k4 := HH.out.2 4 _ rfl
    have q0 : (0 : Int) ≤ (k : Int) := by omega
    have HT := hid ((HR.out.src (cellsPaper_len xs) (by omega)).take (k * 5))
    have HU := hid (show SrcAt wr (some ⟨g0, k * 5, none⟩) ((xs.map DPaper.cells).flatten.drop (k * 5)) from (by have := (HR.out.src (cellsPaper_len xs) (by omega)).drop (k * 5); rw [Nat.zero_add] at this; exact this))
    have HFL := hid (flatPaper_length xs)
    have HKL := hid (Nat.mul_le_mul_right 5 hk)
    have g0lt : 0 < xs.length → g0 < wr.heap.size := fun h => by
      obtain ⟨b, o, hb, hlt, _⟩ := HR.out (by intro e; rw [List.map_eq_nil_iff] at e; rw [e] at h; exact absurd h (by simp))
      injection hb with hb
      injection hb with hb
      subst hb
      exact hlt
    have HG := hid g0lt
    clear g0lt
    have HTb := hid (show ∀ w', Below wr.heap.size wr w' → SrcAt w' (some ⟨g0, 0, none⟩) ((xs.map DPaper.cells).flatten.take (k * 5)) from fun w' hb => by
      rcases Nat.eq_zero_or_pos xs.length with h0 | h0
      · have e : xs = [] := List.eq_nil_of_length_eq_zero h0
        subst e
        intro h
        simp at h
      · exact HT.out.below hb (HG.out h0))
    have HUb := hid (show ∀ w', Below wr.heap.size wr w' → SrcAt w' (some ⟨g0, k * 5, none⟩) ((xs.map DPaper.cells).flatten.drop (k * 5)) from fun w' hb => by
      rcases Nat.eq_zero_or_pos xs.length with h0 | h0
      · have e : xs = [] := List.eq_nil_of_length_eq_zero h0
        subst e
        intro h
        simp at h
      · exact HU.out.below hb (HG.out h0))
    have HRb := hid (show ∀ w', Below wr.heap.size wr w' → RowsAt w' 5 (some ⟨g0, 0, none⟩) (xs.map DPaper.cells) from fun w' hb => HR.out.below hb)
    by_cases hkl : k < xs.length
    · have hcell : wr.cell? ⟨g0, k * 5, none⟩ = some (.string xs[k].fId) := HR.out.at0 k (by rw [List.getElem?_map, List.getElem?_eq_getElem hkl]; rfl) rfl
      have q1 : (k : Int) < xs.length := by omega
      cases d2 : Op.bytesLess xs[k].fId.toList x.fId.toList
      · have HP := hid (upP_at (id := x.fId) HD.out hk (fun _ => d2))
        have hne : ¬ (xs.length = k) := by omega
        cases d3 : (xs[k].fId.toList == x.fId.toList)
        · have HE := hid (show hasP x.fId xs = false by unfold hasP; rw [HP.out, List.getElem?_eq_getElem hkl]; exact d3)
          clear HD
          by_cases c3 : xs.length = 12
          · have HF := hid (show fAddPaper xs x = ([], 5) by unfold fAddPaper; rw [if_neg (by rw [c1]; exact fun h => by cases h), if_neg (by rw [c2]; exact fun h => by cases h), if_neg (by rw [HE.out]; exact fun h => by cases h), if_pos c3])
            have e3 : ((xs.length : Int) == 12) = true := by rw [beq_iff_eq]; omega
            clear c3
            go_wp2_with fail
            go_quiet (fail)
            go_wp2_with fail
            go_quiet (fail)
            go_wp2_with fail
            go_ret2
            exact RetPaperC.nil HF.out (by first | exact below_drewN' BW.out _ | exact below_drewN' (below_drewN' BW.out _) _)
          · have HF := hid (show fAddPaper xs x = (insPaper xs (upP x.fId xs) x, 0) by unfold fAddPaper; rw [if_neg (by rw [c1]; exact fun h => by cases h), if_neg (by rw [c2]; exact fun h => by cases h), if_neg (by rw [HE.out]; exact fun h => by cases h), if_neg c3])
            have e3 : ((xs.length : Int) == 12) = false := by rw [beq_eq_false_iff_ne]; omega
            have e3' : ¬ ((xs.length : Int) = 12) := by omega
            have x1 : (k : Int) ≤ xs.length := by omega
            clear c3
            go_wp2_with fail
            go_quiet (fail)
            go_wp2_with fail
            go_quiet (fail)
            clear d2 d3 hcell
            go_wp2_with fail
            go_region_with (first | (go_at_call 158; refine (clonePaper_ok _ _ xs _ (HRb.out _ (by first | exact Below.refl _ _ | exact (Below.refl _ _).drew | exact below_drewN' (Below.refl _ _) _ | exact (below_drewN' (Below.refl _ _) _).drew | exact (below_drewN' (Below.refl _ _) _).alloc (Nat.le_refl _) _ | exact below_drewN' (below_alloc _ _) _ | exact (below_drewN' (below_alloc _ _) _).drew | exact ((below_drewN' (Below.refl _ _) _).alloc (Nat.le_refl _) _).drew | exact (below_drewN' (Below.refl _ _) _).drew.alloc (Nat.le_refl _) _ | exact below_drewN' (below_drewN' (Below.refl _ _) _) _ | exact (below_drewN' (below_drewN' (Below.refl _ _) _) _).alloc (Nat.le_refl _) _ | exact below_drewN' (below_drewN' (below_alloc _ _) _) _ | exact (below_drewN' (below_drewN' (Below.refl _ _) _) _).drew | exact ((below_drewN' (below_drewN' (Below.refl _ _) _) _).alloc (Nat.le_refl _) _).drew | exact (below_drewN' (below_drewN' (Below.refl _ _) _) _).drew.alloc (Nat.le_refl _) _)) hn (fun h => by cases h)).mono ?_; rintro e w5 ⟨g5, rfl, ho5, hb5⟩; have hbc := hid (show Below wr.heap.size wr w5 from below_trans (by first | exact Below.refl _ _ | exact (Below.refl _ _).drew | exact below_drewN' (Below.refl _ _) _ | exact (below_drewN' (Below.refl _ _) _).drew | exact (below_drewN' (Below.refl _ _) _).alloc (Nat.le_refl _) _ | exact below_drewN' (below_alloc _ _) _ | exact (below_drewN' (below_alloc _ _) _).drew | exact ((below_drewN' (Below.refl _ _) _).alloc (Nat.le_refl _) _).drew | exact (below_drewN' (Below.refl _ _) _).drew.alloc (Nat.le_refl _) _ | exact below_drewN' (below_drewN' (Below.refl _ _) _) _ | exact (below_drewN' (below_drewN' (Below.refl _ _) _) _).alloc (Nat.le_refl _) _ | exact below_drewN' (below_drewN' (below_alloc _ _) _) _ | exact (below_drewN' (below_drewN' (Below.refl _ _) _) _).drew | exact ((below_drewN' (below_drewN' (Below.refl _ _) _) _).alloc (Nat.le_refl _) _).drew | exact (below_drewN' (below_drewN' (Below.refl _ _) _) _).drew.alloc (Nat.le_refl _) _) hb5); have HY := HH.out.below hbc.out; have kk0 := HY.2 0 _ rfl; have kk1 := HY.2 1 _ rfl; have kk2 := HY.2 2 _ rfl; have kk3 := HY.2 3 _ rfl; have kk4 := HY.2 4 _ rfl; clear HY) | (go_at_call 157; refine (insertPaper_ok _ k _ _ _ xs x _ (by first | exact ho5 | exact ho5.alloc _) hk (by first | exact (HasC.new _ [.string x.fId, .string x.fMaker, .int .i64 x.fEarly, .int .i64 x.fLate, .int .i64 x.fTrust] _).2 | exact ((HasC.new _ [.string x.fId, .string x.fMaker, .int .i64 x.fEarly, .int .i64 x.fLate, .int .i64 x.fTrust] _).below hb5).2) (by first | exact (HasC.new _ [.string x.fId, .string x.fMaker, .int .i64 x.fEarly, .int .i64 x.fLate, .int .i64 x.fTrust] _).1 | exact ((HasC.new _ [.string x.fId, .string x.fMaker, .int .i64 x.fEarly, .int .i64 x.fLate, .int .i64 x.fTrust] _).below hb5).1) hn (by first | exact hb5.size | exact Nat.le_trans hb5.size (by simp))).mono ?_; rintro e w6 ⟨A6, c6, rfl, ho6, hb6⟩))
            all_goals
              go_wp2_with fail
              go_ret2
              refine RetPaperC.own (v := .slice A6 (xs.length + 1) c6) (n := xs.length + 1) HF.out (by rw [HP.out, insPaper_length hk]) (by rw [HP.out]; exact own_mono ho6 (by have := BW.out.size; first | exact this | (simp; omega))) (below_up BW.out BW.out.size (by first | exact hbc.out.trans (hb6.mono (by first | exact Nat.le_refl _ | simp)) | exact (hbc.out.alloc hbc.out.size _).trans (hb6.mono (by first | exact Nat.le_refl _ | simp))))
        · have HE := hid (show hasP x.fId xs = true by unfold hasP; rw [HP.out, List.getElem?_eq_getElem hkl]; exact d3)
          have HF := hid (show fAddPaper xs x = ([], 4) by unfold fAddPaper; rw [if_neg (by rw [c1]; exact fun h => by cases h), if_neg (by rw [c2]; exact fun h => by cases h), if_pos HE.out])
          clear HD
          go_wp2_with fail
          go_quiet (fail)
          go_wp2_with fail
          go_quiet (fail)
          go_wp2_with fail
          go_ret2
          exact RetPaperC.nil HF.out (by first | exact below_drewN' BW.out _ | exact below_drewN' (below_drewN' BW.out _) _)
      · have HS := hid (show ∀ j (h : j < xs.length), j < k + 1 → lessP x.fId xs[j] = true from fun j h hj => by
          rcases Nat.lt_or_ge j k with h3 | h3
          · exact HD.out j h h3
          · have e : j = k := by omega
            subst e; exact d2)
        go_wp2_with fail
        go_quiet (fail)
        go_wp2_with fail
        go_roundw
        case rel => exact ⟨k + 1, by omega, by go_num, HS.out, HH.out, below_drewN' BW.out _⟩
        case measure => simp [intOf]; omega
    · obtain rfl : k = xs.length := by omega
      have HP := hid (upP_at (id := x.fId) HD.out hk (fun h => absurd h hkl))
      have HE := hid (show hasP x.fId xs = false by unfold hasP; rw [HP.out, List.getElem?_eq_none (Nat.le_refl _)])
      clear HD
      by_cases c3 : xs.length = 12
      · have HF := hid (show fAddPaper xs x = ([], 5) by unfold fAddPaper; rw [if_neg (by rw [c1]; exact fun h => by cases h), if_neg (by rw [c2]; exact fun h => by cases h), if_neg (by rw [HE.out]; exact fun h => by cases h), if_pos c3])
        have e3 : ((xs.length : Int) == 12) = true := by rw [beq_iff_eq]; omega
        clear c3
        go_wp2_with fail
        go_quiet (fail)
        go_wp2_with fail
        go_quiet (fail)
        go_wp2_with fail
        go_ret2
        exact RetPaperC.nil HF.out (by first | exact below_drewN' BW.out _ | exact below_drewN' (below_drewN' BW.out _) _)
      · have HF := hid (show fAddPaper xs x = (insPaper xs (upP x.fId xs) x, 0) by unfold fAddPaper; rw [if_neg (by rw [c1]; exact fun h => by cases h), if_neg (by rw [c2]; exact fun h => by cases h), if_neg (by rw [HE.out]; exact fun h => by cases h), if_neg c3])
        have e3 : ((xs.length : Int) == 12) = false := by rw [beq_eq_false_iff_ne]; omega
        have e3' : ¬ ((xs.length : Int) = 12) := by omega
        clear c3
        go_wp2_with fail
        go_quiet (fail)
        go_wp2_with fail
        go_quiet (fail)
        go_wp2_with fail
        go_region_with (first | (go_at_call 158; refine (clonePaper_ok _ _ xs _ (HRb.out _ (by first | exact Below.refl _ _ | exact (Below.refl _ _).drew | exact below_drewN' (Below.refl _ _) _ | exact (below_drewN' (Below.refl _ _) _).drew | exact (below_drewN' (Below.refl _ _) _).alloc (Nat.le_refl _) _ | exact below_drewN' (below_alloc _ _) _ | exact (below_drewN' (below_alloc _ _) _).drew | exact ((below_drewN' (Below.refl _ _) _).alloc (Nat.le_refl _) _).drew | exact (below_drewN' (Below.refl _ _) _).drew.alloc (Nat.le_refl _) _ | exact below_drewN' (below_drewN' (Below.refl _ _) _) _ | exact (below_drewN' (below_drewN' (Below.refl _ _) _) _).alloc (Nat.le_refl _) _ | exact below_drewN' (below_drewN' (below_alloc _ _) _) _ | exact (below_drewN' (below_drewN' (Below.refl _ _) _) _).drew | exact ((below_drewN' (below_drewN' (Below.refl _ _) _) _).alloc (Nat.le_refl _) _).drew | exact (below_drewN' (below_drewN' (Below.refl _ _) _) _).drew.alloc (Nat.le_refl _) _)) hn (fun h => by cases h)).mono ?_; rintro e w5 ⟨g5, rfl, ho5, hb5⟩; have hbc := hid (show Below wr.heap.size wr w5 from below_trans (by first | exact Below.refl _ _ | exact (Below.refl _ _).drew | exact below_drewN' (Below.refl _ _) _ | exact (below_drewN' (Below.refl _ _) _).drew | exact (below_drewN' (Below.refl _ _) _).alloc (Nat.le_refl _) _ | exact below_drewN' (below_alloc _ _) _ | exact (below_drewN' (below_alloc _ _) _).drew | exact ((below_drewN' (Below.refl _ _) _).alloc (Nat.le_refl _) _).drew | exact (below_drewN' (Below.refl _ _) _).drew.alloc (Nat.le_refl _) _ | exact below_drewN' (below_drewN' (Below.refl _ _) _) _ | exact (below_drewN' (below_drewN' (Below.refl _ _) _) _).alloc (Nat.le_refl _) _ | exact below_drewN' (below_drewN' (below_alloc _ _) _) _ | exact (below_drewN' (below_drewN' (Below.refl _ _) _) _).drew | exact ((below_drewN' (below_drewN' (Below.refl _ _) _) _).alloc (Nat.le_refl _) _).drew | exact (below_drewN' (below_drewN' (Below.refl _ _) _) _).drew.alloc (Nat.le_refl _) _) hb5); have HY := HH.out.below hbc.out; have kk0 := HY.2 0 _ rfl; have kk1 := HY.2 1 _ rfl; have kk2 := HY.2 2 _ rfl; have kk3 := HY.2 3 _ rfl; have kk4 := HY.2 4 _ rfl; clear HY) | (go_at_call 157; refine (insertPaper_ok _ xs.length _ _ _ xs x _ (by first | exact ho5 | exact ho5.alloc _) hk (by first | exact (HasC.new _ [.string x.fId, .string x.fMaker, .int .i64 x.fEarly, .int .i64 x.fLate, .int .i64 x.fTrust] _).2 | exact ((HasC.new _ [.string x.fId, .string x.fMaker, .int .i64 x.fEarly, .int .i64 x.fLate, .int .i64 x.fTrust] _).below hb5).2) (by first | exact (HasC.new _ [.string x.fId, .string x.fMaker, .int .i64 x.fEarly, .int .i64 x.fLate, .int .i64 x.fTrust] _).1 | exact ((HasC.new _ [.string x.fId, .string x.fMaker, .int .i64 x.fEarly, .int .i64 x.fLate, .int .i64 x.fTrust] _).below hb5).1) hn (by first | exact hb5.size | exact Nat.le_trans hb5.size (by simp))).mono ?_; rintro e w6 ⟨A6, c6, rfl, ho6, hb6⟩))
        all_goals
          go_wp2_with fail
          go_ret2
          refine RetPaperC.own (v := .slice A6 (xs.length + 1) c6) (n := xs.length + 1) HF.out (by rw [HP.out, insPaper_length hk]) (by rw [HP.out]; exact own_mono ho6 (by have := BW.out.size; first | exact this | (simp; omega))) (below_up BW.out BW.out.size (by first | exact hbc.out.trans (hb6.mono (by first | exact Nat.le_refl _ | simp)) | exact (hbc.out.alloc hbc.out.size _).trans (hb6.mono (by first | exact Nat.le_refl _ | simp))))

set_option maxHeartbeats 3200000 in
set_option maxRecDepth 100000 in
theorem specAddPaper_ok (g0 : Nat) (xs : List DPaper) (x : DPaper) (w : World) (hA : RowsAt w 5 (some ⟨g0, 0, none⟩) (xs.map DPaper.cells)) (hok : ∀ x ∈ xs, x.ok) (hn : xs.length ≤ 1048576) (hxo : x.ok) :
    Calls Try.prog 71 #[.slice (some ⟨g0, 0, none⟩) xs.length xs.length, .agg #[.string x.fId, .string x.fMaker, .int .i64 x.fEarly, .int .i64 x.fLate, .int .i64 x.fTrust]] w (RetPaperC w (fAddPaper xs x)) := by
  have HX0 := hid (HasC.new w [.string x.fId, .string x.fMaker, .int .i64 x.fEarly, .int .i64 x.fLate, .int .i64 x.fTrust] 99)
  have HAA := hid hA
  have HA := hid (hA.below (below_alloc w (.cells #[.string x.fId, .string x.fMaker, .int .i64 x.fEarly, .int .i64 x.fLate, .int .i64 x.fTrust] 99)))
  have HK := hid hok
  have hx := hid hxo
  clear hA hok hxo
  cases c1 : papersB xs
  · have HF := hid (show fAddPaper xs x = ([], 1) by unfold fAddPaper; rw [if_pos c1])
    go_enter Try.func71, Try.ntmps71
    go_wp2_with fail
    refine (l20Ok_ok _ _ xs _ HA.out HK.out hn).mono ?_
    rintro e w1 ⟨rfl, hb⟩
    have HX1 := hid (HX0.out.below hb)
    have k0 := HX1.out.2 0 _ rfl
    have k1 := HX1.out.2 1 _ rfl
    have k2 := HX1.out.2 2 _ rfl
    have k3 := HX1.out.2 3 _ rfl
    have k4 := HX1.out.2 4 _ rfl
    have B1 := hid (below_chain hb (Below.refl _ _))
    clear hb
    go_wp2_with fail
    go_ret2
    exact RetPaperC.nil HF.out B1.out
  cases c2 : paperD x
  · have HF := hid (show fAddPaper xs x = ([], 2) by unfold fAddPaper; rw [if_neg (by rw [c1]; exact fun h => by cases h), if_pos c2])
    go_enter Try.func71, Try.ntmps71
    go_wp2_with fail
    refine (l20Ok_ok _ _ xs _ HA.out HK.out hn).mono ?_
    rintro e w1 ⟨rfl, hb⟩
    have HX1 := hid (HX0.out.below hb)
    have k0 := HX1.out.2 0 _ rfl
    have k1 := HX1.out.2 1 _ rfl
    have k2 := HX1.out.2 2 _ rfl
    have k3 := HX1.out.2 3 _ rfl
    have k4 := HX1.out.2 4 _ rfl
    have B1 := hid (below_chain hb (Below.refl _ _))
    clear hb
    go_wp2_with (go_at_call 154; refine (paperW_ok x _ _ _ hx.out k0 k1 k2 k3 k4).mono ?_; rintro e w2 ⟨rfl, hb2⟩)
    go_ret2
    exact RetPaperC.nil HF.out (below_trans B1.out hb2)
  go_enter Try.func71, Try.ntmps71
  go_wp2_with fail
  refine (l20Ok_ok _ _ xs _ HA.out HK.out hn).mono ?_
  rintro e w1 ⟨rfl, hb⟩
  have HX1 := hid (HX0.out.below hb)
  have k0 := HX1.out.2 0 _ rfl
  have k1 := HX1.out.2 1 _ rfl
  have k2 := HX1.out.2 2 _ rfl
  have k3 := HX1.out.2 3 _ rfl
  have k4 := HX1.out.2 4 _ rfl
  have B1 := hid (below_chain hb (Below.refl _ _))
  clear hb
  go_wp2_with (go_at_call 154; refine (paperW_ok x _ _ _ hx.out k0 k1 k2 k3 k4).mono ?_; rintro e w2 ⟨rfl, hb2⟩; have HX2 := hid (HX1.out.below hb2); have B2 := hid (below_trans B1.out hb2); clear hb2 k0 k1 k2 k3 k4)
  clear HX1 HX0 B1
  obtain ⟨wo, rfl⟩ : ∃ wo : World, wo = w2 := ⟨_, rfl⟩
  go_loopw [6] (fun i wr => ∃ k : Nat, k ≤ xs.length ∧ i = .int .i64 k ∧ (∀ j (h : j < xs.length), j < k → lessP x.fId xs[j] = true) ∧ HasC wr w.heap.size [.string x.fId, .string x.fMaker, .int .i64 x.fEarly, .int .i64 x.fLate, .int .i64 x.fTrust] ∧ Below w.heap.size w wr) (fun i _ => xs.length - (intOf i).toNat)
  case atStart => exact ⟨0, Nat.zero_le _, rfl, fun _ _ h => absurd h (by omega), HX2.out, B2.out⟩
  case round =>
    obtain ⟨k, hk, rfl, hall, hhc, hbel⟩ := hrel
    have HD := hid hall
    have HH := hid hhc
    have BW := hid hbel
    have HR := hid (HAA.out.below hbel)
    clear hall hhc hbel
    have k0 := HH.out.2 0 _ rfl
    have k1 := HH.out.2 1 _ rfl
    have k2 := HH.out.2 2 _ rfl
    have k3 := HH.out.2 3 _ rfl
    have k4 := HH.out.2 4 _ rfl
    have q0 : (0 : Int) ≤ (k : Int) := by omega
    have HT := hid ((HR.out.src (cellsPaper_len xs) (by omega)).take (k * 5))
    have HU := hid (show SrcAt wr (some ⟨g0, k * 5, none⟩) ((xs.map DPaper.cells).flatten.drop (k * 5)) from (by have := (HR.out.src (cellsPaper_len xs) (by omega)).drop (k * 5); rw [Nat.zero_add] at this; exact this))
    have HFL := hid (flatPaper_length xs)
    have HKL := hid (Nat.mul_le_mul_right 5 hk)
    have g0lt : 0 < xs.length → g0 < wr.heap.size := fun h => by
      obtain ⟨b, o, hb, hlt, _⟩ := HR.out (by intro e; rw [List.map_eq_nil_iff] at e; rw [e] at h; exact absurd h (by simp))
      injection hb with hb
      injection hb with hb
      subst hb
      exact hlt
    have HG := hid g0lt
    clear g0lt
    have HTb := hid (show ∀ w', Below wr.heap.size wr w' → SrcAt w' (some ⟨g0, 0, none⟩) ((xs.map DPaper.cells).flatten.take (k * 5)) from fun w' hb => by
      rcases Nat.eq_zero_or_pos xs.length with h0 | h0
      · have e : xs = [] := List.eq_nil_of_length_eq_zero h0
        subst e
        intro h
        simp at h
      · exact HT.out.below hb (HG.out h0))
    have HUb := hid (show ∀ w', Below wr.heap.size wr w' → SrcAt w' (some ⟨g0, k * 5, none⟩) ((xs.map DPaper.cells).flatten.drop (k * 5)) from fun w' hb => by
      rcases Nat.eq_zero_or_pos xs.length with h0 | h0
      · have e : xs = [] := List.eq_nil_of_length_eq_zero h0
        subst e
        intro h
        simp at h
      · exact HU.out.below hb (HG.out h0))
    have HRb := hid (show ∀ w', Below wr.heap.size wr w' → RowsAt w' 5 (some ⟨g0, 0, none⟩) (xs.map DPaper.cells) from fun w' hb => HR.out.below hb)
    by_cases hkl : k < xs.length
    · have hcell : wr.cell? ⟨g0, k * 5, none⟩ = some (.string xs[k].fId) := HR.out.at0 k (by rw [List.getElem?_map, List.getElem?_eq_getElem hkl]; rfl) rfl
      have q1 : (k : Int) < xs.length := by omega
      cases d2 : Op.bytesLess xs[k].fId.toList x.fId.toList
      · have HP := hid (upP_at (id := x.fId) HD.out hk (fun _ => d2))
        have hne : ¬ (xs.length = k) := by omega
        cases d3 : (xs[k].fId.toList == x.fId.toList)
        · have HE := hid (show hasP x.fId xs = false by unfold hasP; rw [HP.out, List.getElem?_eq_getElem hkl]; exact d3)
          clear HD
          by_cases c3 : xs.length = 12
          · have HF := hid (show fAddPaper xs x = ([], 5) by unfold fAddPaper; rw [if_neg (by rw [c1]; exact fun h => by cases h), if_neg (by rw [c2]; exact fun h => by cases h), if_neg (by rw [HE.out]; exact fun h => by cases h), if_pos c3])
            have e3 : ((xs.length : Int) == 12) = true := by rw [beq_iff_eq]; omega
            clear c3
            go_wp2_with fail
            go_quiet (fail)
            go_wp2_with fail
            go_quiet (fail)
            go_wp2_with fail
            go_ret2
            exact RetPaperC.nil HF.out (by first | exact below_drewN' BW.out _ | exact below_drewN' (below_drewN' BW.out _) _)
          · have HF := hid (show fAddPaper xs x = (insPaper xs (upP x.fId xs) x, 0) by unfold fAddPaper; rw [if_neg (by rw [c1]; exact fun h => by cases h), if_neg (by rw [c2]; exact fun h => by cases h), if_neg (by rw [HE.out]; exact fun h => by cases h), if_neg c3])
            have e3 : ((xs.length : Int) == 12) = false := by rw [beq_eq_false_iff_ne]; omega
            have e3' : ¬ ((xs.length : Int) = 12) := by omega
            have x1 : (k : Int) ≤ xs.length := by omega
            clear c3
            go_wp2_with fail
            go_quiet (fail)
            go_wp2_with fail
            go_quiet (fail)
            clear d2 d3 hcell
            go_wp2_with (first | (at_builtin; refine wpList_app_src (w0 := wr) rfl (.tmp 46) (.tmp 49) 95 rfl wr.heap.size 99 (.agg #[.string ⟨#[]⟩, .string ⟨#[]⟩, .int .i64 0, .int .i64 0, .int .i64 0]) 5 56 Try.underlying95 infoPaper rfl (by decide) _ 0 [] rfl (World.ownsRow_lit _ _ 0 (by simp) (by unfold maxLen; omega) rfl) (some ⟨g0, 0, none⟩) k xs.length ((xs.map DPaper.cells).flatten.take (k * 5)) rfl (by have := HFL.out; have := HKL.out; rw [List.length_take]; omega) (fun h => by cases h) (HTb.out _ (by first | exact Below.refl _ _ | exact (Below.refl _ _).drew | exact below_drewN' (Below.refl _ _) _ | exact (below_drewN' (Below.refl _ _) _).drew | exact (below_drewN' (Below.refl _ _) _).alloc (Nat.le_refl _) _ | exact below_drewN' (below_alloc _ _) _ | exact (below_drewN' (below_alloc _ _) _).drew | exact ((below_drewN' (Below.refl _ _) _).alloc (Nat.le_refl _) _).drew | exact (below_drewN' (Below.refl _ _) _).drew.alloc (Nat.le_refl _) _ | exact below_drewN' (below_drewN' (Below.refl _ _) _) _ | exact (below_drewN' (below_drewN' (Below.refl _ _) _) _).alloc (Nat.le_refl _) _ | exact below_drewN' (below_drewN' (below_alloc _ _) _) _ | exact (below_drewN' (below_drewN' (Below.refl _ _) _) _).drew | exact ((below_drewN' (below_drewN' (Below.refl _ _) _) _).alloc (Nat.le_refl _) _).drew | exact (below_drewN' (below_drewN' (Below.refl _ _) _) _).drew.alloc (Nat.le_refl _) _)) (fun u hu => onePaper xs u (List.mem_of_mem_take hu)) (by omega) (by simp) (by first | exact Below.refl _ _ | exact (Below.refl _ _).drew | exact below_drewN' (Below.refl _ _) _ | exact (below_drewN' (Below.refl _ _) _).drew | exact (below_drewN' (Below.refl _ _) _).alloc (Nat.le_refl _) _ | exact below_drewN' (below_alloc _ _) _ | exact (below_drewN' (below_alloc _ _) _).drew | exact ((below_drewN' (Below.refl _ _) _).alloc (Nat.le_refl _) _).drew | exact (below_drewN' (Below.refl _ _) _).drew.alloc (Nat.le_refl _) _ | exact below_drewN' (below_drewN' (Below.refl _ _) _) _ | exact (below_drewN' (below_drewN' (Below.refl _ _) _) _).alloc (Nat.le_refl _) _ | exact below_drewN' (below_drewN' (below_alloc _ _) _) _ | exact (below_drewN' (below_drewN' (Below.refl _ _) _) _).drew | exact ((below_drewN' (below_drewN' (Below.refl _ _) _) _).alloc (Nat.le_refl _) _).drew | exact (below_drewN' (below_drewN' (Below.refl _ _) _) _).drew.alloc (Nat.le_refl _) _) ?_; intro v1 w1 hown1 hb1 hz1; simp only [Nat.zero_add, List.nil_append] at hown1; have HY := HH.out.below hb1; have kk0 := HY.2 0 _ rfl; have kk1 := HY.2 1 _ rfl; have kk2 := HY.2 2 _ rfl; have kk3 := HY.2 3 _ rfl; have kk4 := HY.2 4 _ rfl; clear HY) | (at_builtin; refine wpList_app (w0 := wr) rfl (.tmp 51) (.tmp 53) 95 rfl wr.heap.size 99 (.agg #[.string ⟨#[]⟩, .string ⟨#[]⟩, .int .i64 0, .int .i64 0, .int .i64 0]) 5 56 Try.underlying95 infoPaper rfl (by decide) _ k _ rfl hown1 #[.string x.fId, .string x.fMaker, .int .i64 x.fEarly, .int .i64 x.fLate, .int .i64 x.fTrust] 1 1 rfl rfl (by intro u hu; exact onePaper [x] u (by simpa [DPaper.cells] using hu)) (by omega) hb1.size hb1 ?_; intro v2 w2 hown2 hb2 hz2 hgr2; clear hgr2 kk0 kk1 kk2 kk3 kk4) | (at_builtin; refine wpList_app_src (w0 := wr) rfl (.tmp 55) (.tmp 58) 95 rfl wr.heap.size 99 (.agg #[.string ⟨#[]⟩, .string ⟨#[]⟩, .int .i64 0, .int .i64 0, .int .i64 0]) 5 56 Try.underlying95 infoPaper rfl (by decide) _ (k + 1) _ rfl hown2 (some ⟨g0, k * 5, none⟩) (xs.length - k) (xs.length - k) ((xs.map DPaper.cells).flatten.drop (k * 5)) rfl (by have := HFL.out; rw [List.length_drop]; omega) (fun h => by cases h) (HUb.out _ hb2) (fun u hu => onePaper xs u (List.mem_of_mem_drop hu)) (by omega) hb2.size hb2 ?_; intro v3 w3 hown3 hb3 hz3))
            go_ret2
            refine RetPaperC.own (v := v3) (n := k + 1 + (xs.length - k)) HF.out (by rw [HP.out, insPaper_length hk]; omega) (own_mono (B := wr.heap.size) ?_ BW.out.size) (below_up BW.out BW.out.size hb3)
            rw [HP.out, insPaper_flat]
            exact hown3
        · have HE := hid (show hasP x.fId xs = true by unfold hasP; rw [HP.out, List.getElem?_eq_getElem hkl]; exact d3)
          have HF := hid (show fAddPaper xs x = ([], 4) by unfold fAddPaper; rw [if_neg (by rw [c1]; exact fun h => by cases h), if_neg (by rw [c2]; exact fun h => by cases h), if_pos HE.out])
          clear HD
          go_wp2_with fail
          go_quiet (fail)
          go_wp2_with fail
          go_quiet (fail)
          go_wp2_with fail
          go_ret2
          exact RetPaperC.nil HF.out (by first | exact below_drewN' BW.out _ | exact below_drewN' (below_drewN' BW.out _) _)
      · have HS := hid (show ∀ j (h : j < xs.length), j < k + 1 → lessP x.fId xs[j] = true from fun j h hj => by
          rcases Nat.lt_or_ge j k with h3 | h3
          · exact HD.out j h h3
          · have e : j = k := by omega
            subst e; exact d2)
        go_wp2_with fail
        go_quiet (fail)
        go_wp2_with fail
        go_roundw
        case rel => exact ⟨k + 1, by omega, by go_num, HS.out, HH.out, below_drewN' BW.out _⟩
        case measure => simp [intOf]; omega
    · obtain rfl : k = xs.length := by omega
      have HP := hid (upP_at (id := x.fId) HD.out hk (fun h => absurd h hkl))
      have HE := hid (show hasP x.fId xs = false by unfold hasP; rw [HP.out, List.getElem?_eq_none (Nat.le_refl _)])
      clear HD
      by_cases c3 : xs.length = 12
      · have HF := hid (show fAddPaper xs x = ([], 5) by unfold fAddPaper; rw [if_neg (by rw [c1]; exact fun h => by cases h), if_neg (by rw [c2]; exact fun h => by cases h), if_neg (by rw [HE.out]; exact fun h => by cases h), if_pos c3])
        have e3 : ((xs.length : Int) == 12) = true := by rw [beq_iff_eq]; omega
        clear c3
        go_wp2_with fail
        go_quiet (fail)
        go_wp2_with fail
        go_quiet (fail)
        go_wp2_with fail
        go_ret2
        exact RetPaperC.nil HF.out (by first | exact below_drewN' BW.out _ | exact below_drewN' (below_drewN' BW.out _) _)
      · have HF := hid (show fAddPaper xs x = (insPaper xs (upP x.fId xs) x, 0) by unfold fAddPaper; rw [if_neg (by rw [c1]; exact fun h => by cases h), if_neg (by rw [c2]; exact fun h => by cases h), if_neg (by rw [HE.out]; exact fun h => by cases h), if_neg c3])
        have e3 : ((xs.length : Int) == 12) = false := by rw [beq_eq_false_iff_ne]; omega
        have e3' : ¬ ((xs.length : Int) = 12) := by omega
        clear c3
        go_wp2_with fail
        go_quiet (fail)
        go_wp2_with fail
        go_quiet (fail)
        go_wp2_with (first | (at_builtin; refine wpList_app_src (w0 := wr) rfl (.tmp 46) (.tmp 49) 95 rfl wr.heap.size 99 (.agg #[.string ⟨#[]⟩, .string ⟨#[]⟩, .int .i64 0, .int .i64 0, .int .i64 0]) 5 56 Try.underlying95 infoPaper rfl (by decide) _ 0 [] rfl (World.ownsRow_lit _ _ 0 (by simp) (by unfold maxLen; omega) rfl) (some ⟨g0, 0, none⟩) xs.length xs.length ((xs.map DPaper.cells).flatten.take (xs.length * 5)) rfl (by have := HFL.out; have := HKL.out; rw [List.length_take]; omega) (fun h => by cases h) (HTb.out _ (by first | exact Below.refl _ _ | exact (Below.refl _ _).drew | exact below_drewN' (Below.refl _ _) _ | exact (below_drewN' (Below.refl _ _) _).drew | exact (below_drewN' (Below.refl _ _) _).alloc (Nat.le_refl _) _ | exact below_drewN' (below_alloc _ _) _ | exact (below_drewN' (below_alloc _ _) _).drew | exact ((below_drewN' (Below.refl _ _) _).alloc (Nat.le_refl _) _).drew | exact (below_drewN' (Below.refl _ _) _).drew.alloc (Nat.le_refl _) _ | exact below_drewN' (below_drewN' (Below.refl _ _) _) _ | exact (below_drewN' (below_drewN' (Below.refl _ _) _) _).alloc (Nat.le_refl _) _ | exact below_drewN' (below_drewN' (below_alloc _ _) _) _ | exact (below_drewN' (below_drewN' (Below.refl _ _) _) _).drew | exact ((below_drewN' (below_drewN' (Below.refl _ _) _) _).alloc (Nat.le_refl _) _).drew | exact (below_drewN' (below_drewN' (Below.refl _ _) _) _).drew.alloc (Nat.le_refl _) _)) (fun u hu => onePaper xs u (List.mem_of_mem_take hu)) (by omega) (by simp) (by first | exact Below.refl _ _ | exact (Below.refl _ _).drew | exact below_drewN' (Below.refl _ _) _ | exact (below_drewN' (Below.refl _ _) _).drew | exact (below_drewN' (Below.refl _ _) _).alloc (Nat.le_refl _) _ | exact below_drewN' (below_alloc _ _) _ | exact (below_drewN' (below_alloc _ _) _).drew | exact ((below_drewN' (Below.refl _ _) _).alloc (Nat.le_refl _) _).drew | exact (below_drewN' (Below.refl _ _) _).drew.alloc (Nat.le_refl _) _ | exact below_drewN' (below_drewN' (Below.refl _ _) _) _ | exact (below_drewN' (below_drewN' (Below.refl _ _) _) _).alloc (Nat.le_refl _) _ | exact below_drewN' (below_drewN' (below_alloc _ _) _) _ | exact (below_drewN' (below_drewN' (Below.refl _ _) _) _).drew | exact ((below_drewN' (below_drewN' (Below.refl _ _) _) _).alloc (Nat.le_refl _) _).drew | exact (below_drewN' (below_drewN' (Below.refl _ _) _) _).drew.alloc (Nat.le_refl _) _) ?_; intro v1 w1 hown1 hb1 hz1; simp only [Nat.zero_add, List.nil_append] at hown1; have HY := HH.out.below hb1; have kk0 := HY.2 0 _ rfl; have kk1 := HY.2 1 _ rfl; have kk2 := HY.2 2 _ rfl; have kk3 := HY.2 3 _ rfl; have kk4 := HY.2 4 _ rfl; clear HY) | (at_builtin; refine wpList_app (w0 := wr) rfl (.tmp 51) (.tmp 53) 95 rfl wr.heap.size 99 (.agg #[.string ⟨#[]⟩, .string ⟨#[]⟩, .int .i64 0, .int .i64 0, .int .i64 0]) 5 56 Try.underlying95 infoPaper rfl (by decide) _ xs.length _ rfl hown1 #[.string x.fId, .string x.fMaker, .int .i64 x.fEarly, .int .i64 x.fLate, .int .i64 x.fTrust] 1 1 rfl rfl (by intro u hu; exact onePaper [x] u (by simpa [DPaper.cells] using hu)) (by omega) hb1.size hb1 ?_; intro v2 w2 hown2 hb2 hz2 hgr2; clear hgr2 kk0 kk1 kk2 kk3 kk4) | (at_builtin; refine wpList_app_src (w0 := wr) rfl (.tmp 55) (.tmp 58) 95 rfl wr.heap.size 99 (.agg #[.string ⟨#[]⟩, .string ⟨#[]⟩, .int .i64 0, .int .i64 0, .int .i64 0]) 5 56 Try.underlying95 infoPaper rfl (by decide) _ (xs.length + 1) _ rfl hown2 (some ⟨g0, 0, none⟩) 0 0 [] rfl rfl (fun h => by cases h) (SrcAt.nil _ _) (fun u hu => by cases hu) (by omega) hb2.size hb2 ?_; intro v3 w3 hown3 hb3 hz3))
        go_ret2
        refine RetPaperC.own (v := v3) (n := xs.length + 1 + 0) HF.out (by rw [HP.out, insPaper_length hk]) (own_mono (B := wr.heap.size) ?_ BW.out.size) (below_up BW.out BW.out.size hb3)
        rw [HP.out, insPaper_flat]
        rw [List.drop_of_length_le (by rw [HFL.out]; exact Nat.le_refl _)]; exact hown3

end Go.Proofs.Ytnekigpeknenjaa
