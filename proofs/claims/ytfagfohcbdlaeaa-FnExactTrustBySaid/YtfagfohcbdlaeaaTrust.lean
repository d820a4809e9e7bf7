/- TrustBy: the makers and their trusts; impl's function. -/
import Derived.Test.YtfagfohcbdlaeaaSorted
import Derived.Test.YtfagfohcbdlaeaaPut
import Derived.Test.YtfagfohcbdlaeaaNames
import Derived.Test.YtfagfohcbdlaeaaVPaper
import Derived.Test.YtfagfohcbdlaeaaRetSI
import Derived.Test.YtfagfohcbdlaeaaRowOps
import Derived.StillTailTactics
namespace Go.Proofs.Ytfagfohcbdlaeaa
open Go.RowKit
set_option linter.unusedVariables false
def makN (xs : List DPaper) (k : Nat) : List Str := match xs[k]? with | some x => [x.fMaker.data.toList] | none => []
theorem makN_at {xs : List DPaper} {k : Nat} (h : k < xs.length) : makN xs k = [xs[k].fMaker.data.toList] := by simp only [makN, List.getElem?_eq_getElem h]
theorem makN_len (xs : List DPaper) (k : Nat) : (makN xs k).length ≤ 1 := by
  unfold makN
  split <;> simp

/-- the trusts of the first k papers of a maker -/
def trustOf (xs : List DPaper) (z : Str) : Nat → Int
  | 0 => 0
  | k + 1 => trustOf xs z k + (match xs[k]? with | some x => if x.fMaker.data.toList = z then x.fTrust else 0 | none => 0)
theorem trustOf_succ {xs : List DPaper} {z : Str} {k : Nat} (h : k < xs.length) : trustOf xs z (k + 1) = trustOf xs z k + (if xs[k].fMaker.data.toList = z then xs[k].fTrust else 0) := by simp only [trustOf, List.getElem?_eq_getElem h]
theorem paper_trust {x : DPaper} (h : paperD x = true) : 1 ≤ x.fTrust ∧ x.fTrust ≤ 1000 := by
  simp only [paperD, paperB, Bool.and_eq_true] at h
  exact inB_iff.1 h.2.2.2.2.2
theorem trustOf_bd {xs : List DPaper} (z : Str) (h : PapersTo xs xs.length) : ∀ k, k ≤ xs.length → 0 ≤ trustOf xs z k ∧ trustOf xs z k ≤ 1000 * (k : Int)
  | 0, _ => by simp only [trustOf]; omega
  | k + 1, hk => by
    have ih := trustOf_bd z h k (by omega)
    have ht := paper_trust (h k (by omega) (by omega)).1
    rw [trustOf_succ (by omega)]
    split <;> omega
theorem trust_none {xs : List DPaper} {z : Str} : ∀ k, k ≤ xs.length → z ∉ namesN (makN xs) k → trustOf xs z k = 0
  | 0, _, _ => rfl
  | k + 1, hk, hz => by
    rw [namesN, List.mem_append, makN_at (by omega)] at hz
    have h1 : z ∉ namesN (makN xs) k := fun h => hz (.inl h)
    have h2 : ¬ xs[k].fMaker.data.toList = z := fun h => hz (.inr (by simp [h]))
    rw [trustOf_succ (by omega), trust_none k (by omega) h1, if_neg h2]
    rfl
def sumsOf (xs : List DPaper) (F : List Str) (k : Nat) : List Int := F.map fun z => trustOf xs z k
theorem sumsOf_len (xs : List DPaper) (F : List Str) (k : Nat) : (sumsOf xs F k).length = F.length := by simp [sumsOf]
theorem sumsOf_zero (xs : List DPaper) (F : List Str) : sumsOf xs F 0 = List.replicate F.length 0 := by
  unfold sumsOf
  rw [show (fun z => trustOf xs z 0) = (fun _ => (0 : Int)) from rfl, List.map_const']
theorem sumsOf_set {xs : List DPaper} {F : List Str} {k i : Nat} (h : k < xs.length) (hF : Up F) (hi : i < F.length) (he : F[i] = xs[k].fMaker.data.toList) : sumsOf xs F (k + 1) = (sumsOf xs F k).set i (trustOf xs F[i] k + xs[k].fTrust) := by
  apply List.ext_getElem
  · simp [sumsOf]
  · intro j h1 h2
    have hj : j < F.length := by simpa [sumsOf] using h1
    rw [List.getElem_set]
    simp only [sumsOf, List.getElem_map]
    split
    · rename_i e
      subst e
      rw [trustOf_succ h, if_pos he.symm]
    · rename_i e
      rw [trustOf_succ h, if_neg, Int.add_zero]
      intro e2
      rw [← he] at e2
      rcases Nat.lt_or_ge i j with h3 | h3
      · have := up_get hF h3 hj
        rw [e2] at this
        exact List.lt_irrefl _ this
      · have := up_get hF (show j < i by omega) hi
        rw [e2] at this
        exact List.lt_irrefl _ this
noncomputable def fTrust (xs : List DPaper) : List Str × List Int × Int := if papersB xs = false then ([], [], 1) else (setOf (namesN (makN xs) xs.length), sumsOf xs (setOf (namesN (makN xs) xs.length)) xs.length, 0)
theorem fTrust_small (xs : List DPaper) : (fTrust xs).1.length ≤ 64 ∧ (fTrust xs).2.1.length ≤ 64 := by
  unfold fTrust
  split
  · simp
  · rename_i h1
    have h := papersB_iff.1 (by simpa using h1)
    have h2 := setOf_len (namesN (makN xs) xs.length)
    have h3 := namesN_len (makN_len xs) xs.length
    have h4 := sumsOf_len xs (setOf (namesN (makN xs) xs.length)) xs.length
    simp only
    omega
theorem mak_mem {xs : List DPaper} {k n : Nat} (h : k < xs.length) (hn : k < n) : xs[k].fMaker.data.toList ∈ setOf (namesN (makN xs) n) := by
  rw [setOf_mem, namesN_mem]
  exact ⟨k, hn, by rw [makN_at h]; exact List.mem_cons_self⟩

set_option maxHeartbeats 800000 in
set_option maxRecDepth 100000 in
theorem idxS_ok (A : Option Addr) (c : Nat) (F : List Str) (x : ByteArray) (i : Nat) (w : World) (hA : StrsAt w A F) (hn : F.length ≤ 1048576) (hi : i < F.length) (he : F[i] = x.data.toList) (hne : ∀ j (h : j < F.length), j < i → F[j] ≠ x.data.toList) :
    Calls Try.prog 97 #[.slice A F.length c, .string x] w fun e w' => e = .returned (.int .i64 i) ∧ w' = w := by
  have HA := hid hA
  have HE := hid he
  have HNE := hid hne
  clear hA he hne
  go_enter Try.func97, Try.ntmps97
  go_wp2_with fail
  go_loop [8] (fun v => ∃ k : Nat, k ≤ i ∧ v = .int .i64 k) (fun v => F.length - (intOf v).toNat)
  case atStart => exact ⟨0, Nat.zero_le _, rfl⟩
  case round =>
    obtain ⟨k, hk, rfl⟩ := hrel
    have hkl : k < F.length := by omega
    obtain ⟨b, o, rfl, hlt, hc⟩ := HA.out (by intro e; rw [e] at hkl; exact absurd hkl (by simp))
    have hcell : w.cell? ⟨b, o + k, none⟩ = some (.string (tB F[k])) := hc k _ (List.getElem?_eq_getElem hkl)
    have q0 : (0 : Int) ≤ (k : Int) := by omega
    have q1 : (k : Int) < F.length := by omega
    clear hc
    rcases Nat.lt_or_ge k i with h3 | h3
    · have e0 : (x.toList == (tB F[k]).toList) = false := by
        rw [beq_eq_false_iff_ne, toList_tB, Lib.toList_data]
        exact fun e => HNE.out k hkl h3 e.symm
      go_wp2_with fail
      go_round
      case rel => exact ⟨k + 1, by omega, by go_num⟩
      case measure => simp [intOf]; omega
    · have hk2 : k = i := by omega
      subst hk2
      have e0 : (x.toList == (tB F[k]).toList) = true := by
        rw [beq_iff_eq, toList_tB, Lib.toList_data]
        exact HE.out.symm
      go_wp2_with fail
      go_ret
      exact ⟨rfl, rfl⟩

set_option maxHeartbeats 3200000 in
set_option maxRecDepth 100000 in
theorem implTrust_ok (A : Option Addr) (c : Nat) (xs : List DPaper) (w : World) (hA : RowsAt w 5 A (xs.map DPaper.cells)) (hok : ∀ x ∈ xs, x.ok) (hn : xs.length ≤ 1048576) :
    Calls Try.prog 37 #[.slice A xs.length c] w (RetSI w (fTrust xs)) := by
  have HA := hid hA
  have HK := hid hok
  clear hA hok
  cases c1 : papersB xs
  · have HF := hid (show fTrust xs = ([], [], 1) by unfold fTrust; rw [if_pos c1])
    go_enter Try.func37, Try.ntmps37
    go_wp2_with fail
    refine (ValidPapers_ok A c xs _ HA.out HK.out hn).mono ?_
    rintro e w1 ⟨rfl, hb⟩
    go_wp2_with fail
    go_ret3
    exact RetSI.nil HF.out hb
  have HF := hid (show fTrust xs = (setOf (namesN (makN xs) xs.length), sumsOf xs (setOf (namesN (makN xs) xs.length)) xs.length, 0) by unfold fTrust; rw [if_neg (by rw [c1]; exact fun h => by cases h)])
  have HH := hid (papersB_iff.1 c1)
  have h12 := HH.out.2
  go_enter Try.func37, Try.ntmps37
  go_wp2_with fail
  refine (ValidPapers_ok A c xs _ HA.out HK.out hn).mono ?_
  rintro e w1 ⟨rfl, hb⟩
  have B1 := hid hb
  have HA := hid (HA.out.below B1.out)
  clear hb
  go_wp2_with fail
  go_loopw [5, 17] (fun v m wr => ∃ (k g cc : Nat), k ≤ xs.length ∧ m = .int .i64 k ∧ v = .slice (some ⟨g, 0, none⟩) (namesN (makN xs) k).length cc ∧ wr.ownsRow w1.heap.size 9 1 (.slice (some ⟨g, 0, none⟩) (namesN (makN xs) k).length cc) (namesN (makN xs) k).length ((namesN (makN xs) k).map vS) ∧ Below w1.heap.size w1 wr) (fun _ m _ => xs.length - (intOf m).toNat)
  case atStart => exact ⟨0, _, _, Nat.zero_le _, rfl, rfl, World.ownsRow_lit _ _ 0 (Nat.le_refl _) (by unfold maxLen; omega) rfl, below_alloc _ _⟩
  case round =>
    obtain ⟨k, g, cc, hk, rfl, rfl, hown, hbel⟩ := hrel
    have HO := hid hown
    have HB := hid hbel
    have hnl : (namesN (makN xs) k).length ≤ 1 * k := namesN_len (makN_len xs) k
    clear hown hbel
    by_cases hkl : k < xs.length
    · have hne : xs.map DPaper.cells ≠ [] := by intro e; rw [List.map_eq_nil_iff] at e; rw [e] at hkl; exact absurd hkl (by simp)
      obtain ⟨b, o, rfl, hlt, hc⟩ := (HA.out.below HB.out) hne
      have HC := hid hc
      have hc0 : wr.cell? ⟨b, o + k * 5, none⟩ = some (.string xs[k].fId) := HC.out k _ (by rw [List.getElem?_map, List.getElem?_eq_getElem hkl]; rfl) 0 _ rfl
      have hc1 : wr.cell? ⟨b, o + k * 5 + 1, none⟩ = some (.string xs[k].fMaker) := HC.out k _ (by rw [List.getElem?_map, List.getElem?_eq_getElem hkl]; rfl) 1 _ rfl
      have hc2 : wr.cell? ⟨b, o + k * 5 + 2, none⟩ = some (.int .i64 xs[k].fEarly) := HC.out k _ (by rw [List.getElem?_map, List.getElem?_eq_getElem hkl]; rfl) 2 _ rfl
      have hc3 : wr.cell? ⟨b, o + k * 5 + 3, none⟩ = some (.int .i64 xs[k].fLate) := HC.out k _ (by rw [List.getElem?_map, List.getElem?_eq_getElem hkl]; rfl) 3 _ rfl
      have hc4 : wr.cell? ⟨b, o + k * 5 + 4, none⟩ = some (.int .i64 xs[k].fTrust) := HC.out k _ (by rw [List.getElem?_map, List.getElem?_eq_getElem hkl]; rfl) 4 _ rfl
      have q0 : (0 : Int) ≤ (k : Int) := by omega
      have q1 : (k : Int) < xs.length := by omega
      clear hc hne
      have NC := hid (HasC.new wr [.string xs[k].fId, .string xs[k].fMaker, .int .i64 xs[k].fEarly, .int .i64 xs[k].fLate, .int .i64 xs[k].fTrust] 119)
      have n1 := NC.out.2 1 _ rfl
      have O5 := hid (HO.out.alloc (.cells #[.string xs[k].fId, .string xs[k].fMaker, .int .i64 xs[k].fEarly, .int .i64 xs[k].fLate, .int .i64 xs[k].fTrust] 119))
      have B5 := hid (HB.out.alloc HB.out.size (.cells #[.string xs[k].fId, .string xs[k].fMaker, .int .i64 xs[k].fEarly, .int .i64 xs[k].fLate, .int .i64 xs[k].fTrust] 119))
      have HE := hid (show (namesN (makN xs) k).map vS ++ [.string xs[k].fMaker] = (namesN (makN xs) (k + 1)).map vS by
        rw [namesN, List.map_append, makN_at hkl]
        simp only [List.map_cons, List.map_nil, vS_data])
      have LE := hid (show (namesN (makN xs) k).length + 1 = (namesN (makN xs) (k + 1)).length by rw [namesN, List.length_append, makN_at hkl]; rfl)
      go_wp2_with (at_builtin; refine wpList_app (w0 := w1) rfl (.tmp 21) (.tmp 24) 24 rfl w1.heap.size 9 (.string ⟨#[]⟩) 1 16 Try.underlying24 infoStr rfl (by decide) _ _ _ rfl O5.out #[.string xs[k].fMaker] 1 1 (by simp [Act.eval]) rfl (by simp [Value.oneCell']) (by omega) B5.out.size B5.out ?_; intro v1 w6 hown1 hbel1 hz1 _; obtain ⟨g6, c6, rfl, hf6⟩ := own_form hown1 (by omega))
      go_roundw
      case rel => exact ⟨k + 1, g6, c6, by omega, by go_num, by rw [← LE.out], by rw [← HE.out, ← LE.out]; exact hown1, hbel1⟩
      case measure => simp [intOf]; omega
    · have hk2 : k = xs.length := by omega
      subst hk2
      have hsl := setOf_len (namesN (makN xs) xs.length)
      obtain ⟨i0, hi0, hz0, hz1, hz2⟩ := info_parts infoI
      obtain ⟨F, hF⟩ : ∃ F, F = setOf (namesN (makN xs) xs.length) := ⟨_, rfl⟩
      rw [← hF] at hsl HF
      have HFF := hid hF
      clear hF
      go_wp2_with (first
        | (at_make; refine wpList_make_full _ rfl _ _ _ rfl w7.heap.size 2 i0 (.int .i64 0) 1 Try.underlying46 hi0 hz0 hz1 .i64 .i64 _ _ F.length rfl rfl rfl rfl (by rw [hz2]; omega) (by unfold maxLen; omega) (Nat.le_refl _) ?_; intro w8 hown8 hg8; have B8 := hid ((Below.refl w7.heap.size w7).grown hg8 (Nat.le_refl _) (fun k hk => by cases hk)); have O8 := hid hown8; clear hown8 hg8)
        | (go_at_call 78; refine (sortedSet_ok g cc _ w1 _ HO.out HB.out (by omega)).mono ?_; rintro e w7 ⟨rfl, ho7, hb7⟩; rw [← HFF.out] at ho7; rw [← HFF.out]; have SO := hid ho7; have SB := hid hb7; clear ho7 hb7))
      have hF64 : F.length ≤ 64 := by omega
      clear HO HB hnl
      go_loopw [34] (fun m wr => ∃ k : Nat, k ≤ xs.length ∧ m = .int .i64 k ∧ wr.ownsRow w7.heap.size 2 1 (.slice (some ⟨w7.heap.size, 0, none⟩) F.length F.length) F.length ((sumsOf xs F k).map (Value.int .i64)) ∧ Below w7.heap.size w7 wr) (fun m _ => xs.length - (intOf m).toNat)
      case atStart =>
        refine ⟨0, Nat.zero_le _, rfl, ?_, B8.out⟩
        have e : (sumsOf xs F 0).map (Value.int .i64) = (madeCells (Value.int .i64 0).cells (F.length * 1)).toList := by
          rw [made_one _ _ rfl, sumsOf_zero]; simp
        rw [e]
        exact O8.out
      case round =>
        obtain ⟨k, hk, rfl, hown, hbel⟩ := hrel
        have HO := hid hown
        have HB := hid hbel
        clear hown hbel
        by_cases hkl : k < xs.length
        · have hne : xs.map DPaper.cells ≠ [] := by intro e; rw [List.map_eq_nil_iff] at e; rw [e] at hkl; exact absurd hkl (by simp)
          obtain ⟨b, o, rfl, hlt, hc⟩ := ((HA.out.below SB.out).below HB.out) hne
          have HC := hid hc
          have hc0 : wr.cell? ⟨b, o + k * 5, none⟩ = some (.string xs[k].fId) := HC.out k _ (by rw [List.getElem?_map, List.getElem?_eq_getElem hkl]; rfl) 0 _ rfl
          have hc1 : wr.cell? ⟨b, o + k * 5 + 1, none⟩ = some (.string xs[k].fMaker) := HC.out k _ (by rw [List.getElem?_map, List.getElem?_eq_getElem hkl]; rfl) 1 _ rfl
          have hc2 : wr.cell? ⟨b, o + k * 5 + 2, none⟩ = some (.int .i64 xs[k].fEarly) := HC.out k _ (by rw [List.getElem?_map, List.getElem?_eq_getElem hkl]; rfl) 2 _ rfl
          have hc3 : wr.cell? ⟨b, o + k * 5 + 3, none⟩ = some (.int .i64 xs[k].fLate) := HC.out k _ (by rw [List.getElem?_map, List.getElem?_eq_getElem hkl]; rfl) 3 _ rfl
          have hc4 : wr.cell? ⟨b, o + k * 5 + 4, none⟩ = some (.int .i64 xs[k].fTrust) := HC.out k _ (by rw [List.getElem?_map, List.getElem?_eq_getElem hkl]; rfl) 4 _ rfl
          have q0 : (0 : Int) ≤ (k : Int) := by omega
          have q1 : (k : Int) < xs.length := by omega
          clear hc hne
          have NC := hid (HasC.new wr [.string xs[k].fId, .string xs[k].fMaker, .int .i64 xs[k].fEarly, .int .i64 xs[k].fLate, .int .i64 xs[k].fTrust] 119)
          obtain ⟨i, hi, hie⟩ := List.mem_iff_getElem.1 (show xs[k].fMaker.data.toList ∈ F by rw [HFF.out]; exact mak_mem hkl hkl)
          have UF := hid (show Up F by rw [HFF.out]; exact setOf_up _)
          have HNE := hid (show ∀ j (h : j < F.length), j < i → F[j] ≠ xs[k].fMaker.data.toList from fun j h hji e => by
            have := up_get UF.out hji hi
            rw [e, hie] at this
            exact List.lt_irrefl _ this)
          have HIE := hid hie
          have HSET := hid (sumsOf_set hkl UF.out hi hie)
          have tb := trustOf_bd F[i] HH.out.1 k hk
          have pt := paper_trust (HH.out.1 k hkl hkl).1
          have W3 := hid (show Below wr.heap.size wr (wr.alloc (.cells #[.string xs[k].fId, .string xs[k].fMaker, .int .i64 xs[k].fEarly, .int .i64 xs[k].fLate, .int .i64 xs[k].fTrust] 119)).drew from (below_alloc wr _).drew)
          have y1 : (wr.alloc (.cells #[.string xs[k].fId, .string xs[k].fMaker, .int .i64 xs[k].fEarly, .int .i64 xs[k].fLate, .int .i64 xs[k].fTrust] 119)).drew.cell? ⟨wr.heap.size, 1, none⟩ = some (.string xs[k].fMaker) := NC.out.2 1 _ rfl
          have y4 : (wr.alloc (.cells #[.string xs[k].fId, .string xs[k].fMaker, .int .i64 xs[k].fEarly, .int .i64 xs[k].fLate, .int .i64 xs[k].fTrust] 119)).drew.cell? ⟨wr.heap.size, 4, none⟩ = some (.int .i64 xs[k].fTrust) := NC.out.2 4 _ rfl
          have OD := hid (own_below HO.out W3.out)
          have SD := hid (strs_own (own_below (own_below SO.out HB.out) W3.out))
          have BD := hid (below_trans HB.out W3.out)
          have g0 : (wr.alloc (.cells #[.string xs[k].fId, .string xs[k].fMaker, .int .i64 xs[k].fEarly, .int .i64 xs[k].fLate, .int .i64 xs[k].fTrust] 119)).drew.cell? ⟨w7.heap.size, i, none⟩ = some (.int .i64 (trustOf xs F[i] k)) := by
            rw [OD.out.cellAt i (by omega), List.getElem?_map]
            unfold sumsOf
            rw [List.getElem?_map, List.getElem?_eq_getElem hi]
            rfl
          have gf : (wr.alloc (.cells #[.string xs[k].fId, .string xs[k].fMaker, .int .i64 xs[k].fEarly, .int .i64 xs[k].fLate, .int .i64 xs[k].fTrust] 119)).drew.frozen? ⟨w7.heap.size, i, none⟩ = false := OD.out.frozenAt i
          obtain ⟨T, hT⟩ : ∃ T, T = trustOf xs F[i] k := ⟨_, rfl⟩
          rw [← hT] at g0 tb HSET
          have w1' : IntKind.i64.wrap (T + xs[k].fTrust) = T + xs[k].fTrust := IntWalk.i64_in _ (by omega)
          have i0' : (0 : Int) ≤ (i : Int) := by omega
          have i1' : (i : Int) < F.length := by omega
          clear hie hT
          go_wp2_with fail
          refine wp_region_still_tail 11 (by kernel_rfl) (by kernel_rfl) ?_
          change wpStill _ _ (wr.alloc (.cells #[.string xs[k].fId, .string xs[k].fMaker, .int .i64 xs[k].fEarly, .int .i64 xs[k].fLate, .int .i64 xs[k].fTrust] 119)).drew (fun a' => wpList _ _ _ _ a' (wr.alloc (.cells #[.string xs[k].fId, .string xs[k].fMaker, .int .i64 xs[k].fEarly, .int .i64 xs[k].fLate, .int .i64 xs[k].fTrust] 119)).drew) _ _
          generalize (wr.alloc (.cells #[.string xs[k].fId, .string xs[k].fMaker, .int .i64 xs[k].fEarly, .int .i64 xs[k].fLate, .int .i64 xs[k].fTrust] 119)).drew = wd at *
          simp only [List.take_succ_cons, List.take_zero, List.drop_succ_cons, List.drop_zero]
          iterate 4 still_step
          still_call (idxS_ok _ _ F xs[k].fMaker i wd SD.out (by omega) hi HIE.out HNE.out)
          repeat still_step
          try refine wpStill_nil ?_
          go_wp2_with fail
          go_roundw
          case rel =>
            refine ⟨k + 1, by omega, by go_num, ?_, BD.out.setCell (p := ⟨w7.heap.size, i, none⟩) (Nat.le_refl _) _⟩
            have e := (OD.out.stored i (.int .i64 (T + xs[k].fTrust))).1
            rw [← List.map_set (f := Value.int .i64), ← HSET.out] at e
            exact e
          case measure => simp [intOf]; omega
        · have hk2 : k = xs.length := by omega
          subst hk2
          go_wp2_with fail
          go_ret3
          have hl := sumsOf_len xs F xs.length
          exact RetSI.own (l2 := sumsOf xs F xs.length) HF.out (own_mono SO.out (by have := B1.out.size; omega)) (own_lt SO.out) (by rw [hl]; exact HO.out) (own_below SO.out HB.out) (by have := B1.out.size; have := SB.out.size; omega) HB.out.size (B1.out.trans ((SB.out.trans (HB.out.mono SB.out.size)).mono B1.out.size)) B1.out.size

end Go.Proofs.Ytfagfohcbdlaeaa
