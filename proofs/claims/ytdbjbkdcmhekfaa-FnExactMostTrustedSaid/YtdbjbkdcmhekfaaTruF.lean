/- MostTrusted and its reference. -/
import Derived.Test.YtdbjbkdcmhekfaaTruQ
import Derived.Test.YtdbjbkdcmhekfaaTruX
import Derived.Test.YtdbjbkdcmhekfaaRange
namespace Go.Proofs.Ytdbjbkdcmhekfaa
open Go.RowKit
set_option linter.unusedVariables false

theorem papers_bd {xs : List DPaper} (h : papersB xs = true) : xs.length ≤ 12 ∧ ∀ x ∈ xs, x.fEarly ≤ x.fLate ∧ 1 ≤ x.fTrust ∧ x.fTrust ≤ 1000 := by
  obtain ⟨h1, h2⟩ := papersB_iff.1 h
  refine ⟨h2, fun x hx => ?_⟩
  obtain ⟨i, hi, rfl⟩ := List.getElem_of_mem hx
  have h3 := (h1 i hi hi).1
  simp only [paperD, paperB, Bool.and_eq_true, decide_eq_true_eq, inB_iff] at h3
  obtain ⟨_, _, _, h4, _, h5, h6⟩ := h3
  exact ⟨h4, h5, h6⟩
theorem srchT_len {xs : List DPaper} {N : Nat} : ∀ (m k : Nat) (t : List Nat) (s : Int) (S S' : WS), t.length + m ≤ N → S.best.length ≤ N → srchT xs m k t s S = some S' → S'.best.length ≤ N ∧ (S.left ≤ 20000 → S'.left ≤ 20000)
  | 0, k, t, s, S, S', ht, hS, h => by
    rw [srchT] at h
    injection h with h
    subst h
    split
    · exact ⟨ht, id⟩
    · exact ⟨hS, id⟩
  | m + 1, k, t, s, S, S', ht, hS, h => by
    rw [srchT] at h
    obtain ⟨S2, h1, h⟩ := Option.bind_eq_some_iff.1 h
    obtain ⟨S3, h3, h⟩ := Option.bind_eq_some_iff.1 h
    have nl : ∀ {S S1 : WS}, nodeT S = some S1 → S.left ≤ 20000 → S1.left ≤ 20000 := fun {S S1} e hl => by
      unfold nodeT at e
      split at e
      · cases e
      · injection e with e
        subst e
        show S.left - 1 ≤ 20000
        omega
    have ha : S2.best.length ≤ N ∧ (S.left ≤ 20000 → S2.left ≤ 20000) := by
      split at h1
      · cases h1
        exact ⟨hS, id⟩
      · obtain ⟨S1, h4, h5⟩ := Option.bind_eq_some_iff.1 h1
        have h6 := srchT_len (N := N) m (k + 1) (t ++ [k]) (s + truOf xs k) S1 S2 (by rw [List.length_append, List.length_singleton]; omega) (by rw [(nodeT_same h4).1]; exact hS) h5
        exact ⟨h6.1, fun hl => h6.2 (nl h4 hl)⟩
    have hb := srchT_len (N := N) m (k + 1) t s S3 S' (by omega) (by rw [(nodeT_same h3).1]; exact ha.1) h
    exact ⟨hb.1, fun hl => hb.2 (nl h3 (ha.2 hl))⟩
theorem fTru_small (xs : List DPaper) (m : Int) : (fTru xs m).1.length ≤ 12 := by
  unfold fTru
  split
  · simp
  · rename_i h1
    split
    · simp
    · split
      · simp
      · rename_i S hS
        have hp := papers_bd (xs := xs) (by cases hq : papersB xs <;> simp_all)
        have := (srchT_len xs.length 0 [] 0 _ S (N := xs.length) (by simp) (by simp) hS).1
        rw [intsN_length]
        omega
/-- the program's search -/
theorem search_ok (xs : List DPaper) (A : Option Addr) (c b : Nat) (w0 : World) (hA : RowsAt w0 5 A (xs.map DPaper.cells)) (hb0 : b = w0.heap.size) (hP : ∀ x ∈ xs, x.fEarly ≤ x.fLate ∧ 0 ≤ x.fTrust ∧ x.fTrust ≤ 1000) (hn : xs.length ≤ 1000) : ∀ (m k : Nat), k + m = xs.length → ∀ (t : List Nat) (s : Int) (S : WS) (w : World), (∀ i ∈ t, i < xs.length) → t.length ≤ k → 0 ≤ s → s ≤ 1000 * (k : Int) → S.left ≤ 20000 → Below b w0 w → TruAt b (.slice A xs.length c) (S.left : Int) S.best S.most t s w →
    Calls Try.prog 74 #[.pointer (some ⟨b, 0, none⟩), .int .i64 (k : Int)] w (SPost b w0 w (.slice A xs.length c) (srchT xs m k t s S) t s)
  | 0, k, hk, t, s, S, w, ht, htl, hs0, hs1, hl, hb, hst => by
    obtain rfl : k = xs.length := by omega
    refine (search_leaf xs A c b w0 t s _ _ _ w (by omega) (by omega) hb hst).mono ?_
    rintro e w' ⟨hbk, rfl, h1, h2⟩
    refine ⟨hbk, ?_⟩
    by_cases hlt : S.most < s
    · rw [srchT, if_pos hlt]
      exact ⟨rfl, hl, h1 hlt⟩
    · rw [srchT, if_neg hlt]
      exact ⟨rfl, hl, h2 hlt⟩
  | m + 1, k, hk, t, s, S, w, ht, htl, hs0, hs1, hl, hb, hst => by
    have he : ((k : Int) + 1) = ((k + 1 : Nat) : Int) := by omega
    have ih : ∀ (t : List Nat) (s : Int) (S : WS) (w : World), (∀ i ∈ t, i < xs.length) → t.length ≤ k + 1 → 0 ≤ s → s ≤ 1000 * ((k : Int) + 1) → S.left ≤ 20000 → Below b w0 w → TruAt b (.slice A xs.length c) (S.left : Int) S.best S.most t s w → Calls Try.prog 74 #[.pointer (some ⟨b, 0, none⟩), .int .i64 ((k : Int) + 1)] w (SPost b w0 w (.slice A xs.length c) (srchT xs m (k + 1) t s S) t s) := by
      rw [he]
      exact fun t s S w h1 h2 h3 h4 h5 h6 h7 => search_ok xs A c b w0 hA hb0 hP hn m (k + 1) (by omega) t s S w h1 h2 h3 h4 h5 h6 h7
    cases hz : clAny xs t k
    · exact search_free xs A c b w0 hA hb0 hP hn m k (by omega) ih t s S w ht htl hs0 hs1 hl hb hst hz
    · exact search_clash xs A c b w0 hA hb0 hP hn m k (by omega) ih t s S w ht htl hs0 hs1 hl hb hst hz
/-- the reference's search -/
theorem run_ok (xs : List DPaper) (A : Option Addr) (c b : Nat) (w0 : World) (bud : Int) (hA : RowsAt w0 5 A (xs.map DPaper.cells)) (hb0 : b = w0.heap.size) (hP : ∀ x ∈ xs, 1 ≤ x.fTrust ∧ x.fTrust ≤ 1000) (hn : xs.length ≤ 1000) (hbud : bud ≤ 20000) : ∀ (m k : Nat), k + m = xs.length → ∀ (t : List Nat) (s : Int) (S : WS) (best : List Nat) (most : Int) (w : World), (∀ i ∈ t, i < xs.length) → t.length ≤ k → Agr xs t → s = sumT xs t → BestT xs t k S → (∀ i ∈ S.best, i < xs.length) → 0 ≤ S.most → RelR S best most → 0 ≤ s → s ≤ 1000 * (k : Int) → (S.left : Int) ≤ bud → Below b w0 w → RefAt b (.slice A xs.length c) t best most (bud - (S.left : Int)) bud false w →
    Calls Try.prog 70 #[.pointer (some ⟨b, 0, none⟩), .int .i64 (k : Int), .int .i64 s] w (RPost b w0 xs (.slice A xs.length c) (srchT xs m k t s S) t bud)
  | 0, k, hk, t, s, S, best, most, w, ht, htl, hag, hsu, hbt, hbb, h0, hrel, hs0, hs1, hl, hb, hst => by
    obtain rfl : k = xs.length := by omega
    have hlf := leafR (fun x hx => (hP x hx).1) hrel hbt hbb ht hsu
    refine (run_leaf xs A c b w0 t s _ bud most best w (by omega) (by omega) hb hst (fun h => (hlf.2.2 h).1)).mono ?_
    rintro e w' ⟨rfl, hb', h1, h2⟩
    refine ⟨rfl, hb', ?_⟩
    have hleft : (if S.most < s then (⟨S.left, t, s⟩ : WS) else S).left = S.left := by split <;> rfl
    have hbe : ∀ i ∈ best, i < xs.length := by
      rcases hrel with ⟨_, rfl⟩ | ⟨_, rfl, _⟩
      · exact hbb
      · intro i hi; cases hi
    rw [srchT]
    generalize (if S.most < s then (⟨S.left, t, s⟩ : WS) else S) = S' at hlf hleft ⊢
    show (((S'.left : Nat) : Int) ≤ bud ∧ ∀ i ∈ S'.best, i < xs.length) ∧ RefAt b (.slice A xs.length c) t S'.best S'.most (bud - (S'.left : Int)) bud false w'
    rw [hleft]
    rcases Int.lt_trichotomy most s with hlt | hlt | hlt
    · obtain ⟨e1, e2⟩ := hlf.1 hlt
      rw [← e1, ← e2]
      exact ⟨⟨hl, ht⟩, h1 hlt⟩
    · obtain ⟨_, e1, e2⟩ := hlf.2.2 hlt.symm
      rw [← e1, ← e2]
      exact ⟨⟨hl, hbe⟩, h2 (by omega)⟩
    · obtain ⟨e1, e2⟩ := hlf.2.1 hlt
      rw [← e1, ← e2]
      exact ⟨⟨hl, hbe⟩, h2 (by omega)⟩
  | m + 1, k, hk, t, s, S, best, most, w, ht, htl, hag, hsu, hbt, hbb, h0, hrel, hs0, hs1, hl, hb, hst => by
    have he : ((k : Int) + 1) = ((k + 1 : Nat) : Int) := by omega
    have ih : ∀ (t : List Nat) (s : Int) (S : WS) (best : List Nat) (most : Int) (w : World), (∀ i ∈ t, i < xs.length) → t.length ≤ k + 1 → Agr xs t → s = sumT xs t → BestT xs t (k + 1) S → (∀ i ∈ S.best, i < xs.length) → 0 ≤ S.most → RelR S best most → 0 ≤ s → s ≤ 1000 * ((k : Int) + 1) → (S.left : Int) ≤ bud → Below b w0 w → RefAt b (.slice A xs.length c) t best most (bud - (S.left : Int)) bud false w → Calls Try.prog 70 #[.pointer (some ⟨b, 0, none⟩), .int .i64 ((k : Int) + 1), .int .i64 s] w (RPost b w0 xs (.slice A xs.length c) (srchT xs m (k + 1) t s S) t bud) := by
      rw [he]
      exact fun t s S best most w h1 h2 h3 h4 h5 h6 h7 h8 h9 h10 h11 h12 h13 => run_ok xs A c b w0 bud hA hb0 hP hn hbud m (k + 1) (by omega) t s S best most w h1 h2 h3 h4 h5 h6 h7 h8 h9 h10 h11 h12 h13
    cases hz : clAny xs t k
    · exact run_free xs A c b w0 bud hA hb0 hP hn hbud m k (by omega) ih t s S best most w ht htl hag hsu hbt hbb h0 hrel hs0 hs1 hl hb hst hz
    · exact run_clash xs A c b w0 bud hA hb0 hP hn hbud m k (by omega) ih t s S best most w ht htl hag hsu hbt hbb h0 hrel hs0 hs1 hl hb hst hz
def RetIIC (w : World) (r : List Int × Int × Int) (e : Ending) (w' : World) : Prop :=
  ∃ A c, e = .returned (.tuple #[.slice A r.1.length c, .int .i64 r.2.1, .int .i64 r.2.2]) ∧ w'.ownsRow w.heap.size 2 1 (.slice A r.1.length c) r.1.length (r.1.map (Value.int .i64)) ∧ Below w.heap.size w w'
theorem RetIIC.nil {w w' : World} {r : List Int × Int × Int} {d c : Int} (h : r = ([], d, c)) (hb : Below w.heap.size w w') : RetIIC w r (.returned (.tuple #[.slice none 0 0, .int .i64 d, .int .i64 c])) w' := by
  subst h
  exact ⟨none, 0, rfl, World.ownsRow_nil _ _ _ _, hb⟩
theorem RetIIC.own {w w' : World} {r : List Int × Int × Int} {d c : Int} {A : Option Addr} {n cap : Nat} {l : List Int} (h : r = (l, d, c)) (hn : n = l.length) (ho : w'.ownsRow w.heap.size 2 1 (.slice A n cap) n (l.map (Value.int .i64))) (hb : Below w.heap.size w w') : RetIIC w r (.returned (.tuple #[.slice A n cap, .int .i64 d, .int .i64 c])) w' := by
  subst h
  subst hn
  exact ⟨A, cap, rfl, ho, hb⟩

set_option maxHeartbeats 3200000 in
set_option maxRecDepth 100000 in
theorem implTru_ok (A : Option Addr) (c : Nat) (xs : List DPaper) (bud : Int) (w : World) (hA : RowsAt w 5 A (xs.map DPaper.cells)) (hok : ∀ x ∈ xs, x.ok) (hn : xs.length ≤ 1048576) :
    Calls Try.prog 12 #[.slice A xs.length c, .int .i64 bud] w (RetIIC w (fTru xs bud)) := by
  have HA := hid hA
  have HK := hid hok
  clear hA hok
  cases c1 : papersB xs
  · have HF := hid (show fTru xs bud = ([], 0, 1) by unfold fTru; rw [if_pos c1])
    go_enter Try.func12, Try.ntmps12
    go_wp2_with fail
    refine (ValidPapers_ok A c xs _ HA.out HK.out hn).mono ?_
    rintro e w1 ⟨he, hb⟩
    rw [c1] at he
    subst he
    go_wp2_with fail
    go_ret3
    exact RetIIC.nil HF.out hb
  cases c2 : inB bud 1 20000
  · have HF := hid (show fTru xs bud = ([], 0, 2) by unfold fTru; rw [if_neg (by rw [c1]; exact fun h => by cases h), if_pos c2])
    go_enter Try.func12, Try.ntmps12
    go_wp2_with fail
    refine (ValidPapers_ok A c xs _ HA.out HK.out hn).mono ?_
    rintro e w1 ⟨he, hb⟩
    rw [c1] at he
    subst he
    go_wp2_with (go_at_call 73; refine (within_ok _ _ _ _).mono ?_; rintro e w' ⟨rfl, rfl⟩)
    go_ret3
    exact RetIIC.nil HF.out hb
  have HF := hid (show fTru xs bud = match srchT xs xs.length 0 [] 0 ⟨bud.toNat, [], 0⟩ with | none => ([], 0, 5) | some S => (intsN S.best, S.most, 0) by unfold fTru; rw [if_neg (by rw [c1]; exact fun h => by cases h), if_neg (by rw [c2]; exact fun h => by cases h)]; rfl)
  have hbd := inB_iff.1 c2
  obtain ⟨hl12, hP⟩ := papers_bd c1
  have HP := hid hP
  clear hP
  have htn : ((bud.toNat : Nat) : Int) = bud := by omega
  go_enter Try.func12, Try.ntmps12
  go_wp2_with fail
  refine (ValidPapers_ok A c xs _ HA.out HK.out hn).mono ?_
  rintro e w1 ⟨he, hb⟩
  rw [c1] at he
  subst he
  have B1 := hid hb
  clear hb
  go_wp2_with (go_at_call 73; refine (within_ok _ _ _ _).mono ?_; rintro e w' ⟨rfl, rfl⟩)
  have BX := hid (below_alloc w1 (.cells #[.slice A xs.length c, .int .i64 bud, .slice none 0 0, .int .i64 0, .slice none 0 0, .int .i64 0] 105))
  have HO := hid (World.ownsRow_lit (e := 105) (size := 6) w1 #[.slice A xs.length c, .int .i64 bud, .slice none 0 0, .int .i64 0, .slice none 0 0, .int .i64 0] 1 (Nat.le_refl _) (by unfold maxLen; omega) rfl)
  have HST := hid (show TruAt w1.heap.size (.slice A xs.length c) ((⟨bud.toNat, [], 0⟩ : WS).left : Int) [] 0 [] 0 (w1.alloc (.cells #[.slice A xs.length c, .int .i64 bud, .slice none 0 0, .int .i64 0, .slice none 0 0, .int .i64 0] 105)) by
    show TruAt w1.heap.size (.slice A xs.length c) ((bud.toNat : Nat) : Int) [] 0 [] 0 _
    rw [htn]
    exact ⟨none, 0, none, 0, HO.out, World.ownsRow_nil _ _ _ _, World.ownsRow_nil _ _ _ _, .inl rfl⟩)
  refine (search_ok xs A c w1.heap.size w1 (HA.out.below B1.out) rfl (fun x hx => ⟨(HP.out x hx).1, by have := (HP.out x hx).2.1; omega, (HP.out x hx).2.2⟩) (by omega) xs.length 0 (by omega) [] 0 ⟨bud.toNat, [], 0⟩ _ (fun i hi => by cases hi) (Nat.le_refl _) (by omega) (by omega) (by show bud.toNat ≤ 20000; omega) BX.out HST.out).mono ?_
  rintro e w4 ⟨⟨hb4, -⟩, hr⟩
  have B4 := hid (B1.out.trans (hb4.mono B1.out.size))
  have L4 := hid B1.out.size
  clear hb4
  cases hq : srchT xs xs.length 0 [] 0 ⟨bud.toNat, [], 0⟩ with
  | none =>
    rw [hq] at hr
    obtain ⟨rfl, -⟩ := hr
    have HF2 := hid (HF.out.trans (by rw [hq]))
    clear hq
    go_wp2_with fail
    go_ret3
    exact RetIIC.nil HF2.out B4.out
  | some S =>
    rw [hq] at hr
    obtain ⟨rfl, -, At, ct, Ab, cb, ho, -, hs, -⟩ := hr
    have HF2 := hid (HF.out.trans (by rw [hq]))
    have HS := hid hs
    have c4 := ho.cellAt 4 (by omega)
    have c5 := ho.cellAt 5 (by omega)
    simp only [List.getElem?_cons_zero, List.getElem?_cons_succ] at c4 c5
    clear hq ho hs
    go_wp2_with fail
    go_quiet (fail)
    go_wp2_with fail
    go_ret3
    exact RetIIC.own HF2.out (intsN_length _).symm (own_mono (w := w4) HS.out (by have := L4.out; omega)) (below_drewN' B4.out _)

set_option maxHeartbeats 3200000 in
set_option maxRecDepth 100000 in
theorem specTru_ok (A : Option Addr) (c : Nat) (xs : List DPaper) (bud : Int) (w : World) (hA : RowsAt w 5 A (xs.map DPaper.cells)) (hok : ∀ x ∈ xs, x.ok) (hn : xs.length ≤ 1048576) :
    Calls Try.prog 10 #[.slice A xs.length c, .int .i64 bud] w (RetIIC w (fTru xs bud)) := by
  have HA := hid hA
  have HK := hid hok
  clear hA hok
  cases c1 : papersB xs
  · have HF := hid (show fTru xs bud = ([], 0, 1) by unfold fTru; rw [if_pos c1])
    go_enter Try.func10, Try.ntmps10
    go_wp2_with fail
    refine (l20Ok_ok A c xs _ HA.out HK.out hn).mono ?_
    rintro e w1 ⟨he, hb⟩
    rw [c1] at he
    subst he
    go_wp2_with fail
    go_ret3
    exact RetIIC.nil HF.out hb
  cases c2 : inB bud 1 20000
  · have HF := hid (show fTru xs bud = ([], 0, 2) by unfold fTru; rw [if_neg (by rw [c1]; exact fun h => by cases h), if_pos c2])
    go_enter Try.func10, Try.ntmps10
    go_wp2_with fail
    refine (l20Ok_ok A c xs _ HA.out HK.out hn).mono ?_
    rintro e w1 ⟨he, hb⟩
    rw [c1] at he
    subst he
    go_wp2_with (go_at_call 69; refine (l00In_ok _ _ _ _).mono ?_; rintro e w' ⟨rfl, rfl⟩)
    go_ret3
    exact RetIIC.nil HF.out hb
  have HF := hid (show fTru xs bud = match srchT xs xs.length 0 [] 0 ⟨bud.toNat, [], 0⟩ with | none => ([], 0, 5) | some S => (intsN S.best, S.most, 0) by unfold fTru; rw [if_neg (by rw [c1]; exact fun h => by cases h), if_neg (by rw [c2]; exact fun h => by cases h)]; rfl)
  have hbd := inB_iff.1 c2
  obtain ⟨hl12, hP⟩ := papers_bd c1
  have HP := hid hP
  clear hP
  have htn : ((bud.toNat : Nat) : Int) = bud := by omega
  go_enter Try.func10, Try.ntmps10
  go_wp2_with fail
  refine (l20Ok_ok A c xs _ HA.out HK.out hn).mono ?_
  rintro e w1 ⟨he, hb⟩
  rw [c1] at he
  subst he
  have B1 := hid hb
  clear hb
  go_wp2_with (go_at_call 69; refine (l00In_ok _ _ _ _).mono ?_; rintro e w' ⟨rfl, rfl⟩)
  have BX := hid (below_alloc w1 (.cells #[.slice A xs.length c, .slice none 0 0, .slice none 0 0, .int .i64 (-1), .int .i64 0, .int .i64 bud, .bool false] 99))
  have HO := hid (World.ownsRow_lit (e := 99) (size := 7) w1 #[.slice A xs.length c, .slice none 0 0, .slice none 0 0, .int .i64 (-1), .int .i64 0, .int .i64 bud, .bool false] 1 (Nat.le_refl _) (by unfold maxLen; omega) rfl)
  have HST := hid (show RefAt w1.heap.size (.slice A xs.length c) [] [] (-1) (bud - ((⟨bud.toNat, [], 0⟩ : WS).left : Int)) bud false (w1.alloc (.cells #[.slice A xs.length c, .slice none 0 0, .slice none 0 0, .int .i64 (-1), .int .i64 0, .int .i64 bud, .bool false] 99)) by
    show RefAt w1.heap.size (.slice A xs.length c) [] [] (-1) (bud - ((bud.toNat : Nat) : Int)) bud false _
    rw [htn, Int.sub_self]
    exact ⟨none, 0, none, 0, HO.out, World.ownsRow_nil _ _ _ _, World.ownsRow_nil _ _ _ _, .inl rfl⟩)
  refine (run_ok xs A c w1.heap.size w1 bud (HA.out.below B1.out) rfl (fun x hx => (HP.out x hx).2) (by omega) (by omega) xs.length 0 (by omega) [] 0 ⟨bud.toNat, [], 0⟩ [] (-1) _ (fun i hi => by cases hi) (Nat.le_refl _) List.Pairwise.nil rfl (.inl ⟨rfl, rfl⟩) (fun i hi => by cases hi) (by show (0 : Int) ≤ 0; omega) (.inr ⟨rfl, rfl, rfl, rfl⟩) (by omega) (by omega) (by show ((bud.toNat : Nat) : Int) ≤ bud; omega) BX.out HST.out).mono ?_
  rintro e w4 ⟨rfl, hb4, hr⟩
  have B4 := hid (B1.out.trans (hb4.mono B1.out.size))
  have L4 := hid B1.out.size
  clear hb4
  cases hq : srchT xs xs.length 0 [] 0 ⟨bud.toNat, [], 0⟩ with
  | none =>
    rw [hq] at hr
    obtain ⟨best, most, At, ct, Ab, cb, ho, -, -, -⟩ := hr
    have HF2 := hid (HF.out.trans (by rw [hq]))
    have c6 := ho.cellAt 6 (by omega)
    simp only [List.getElem?_cons_zero, List.getElem?_cons_succ] at c6
    clear hq ho
    go_wp2_with fail
    go_ret3
    exact RetIIC.nil HF2.out B4.out
  | some S =>
    rw [hq] at hr
    obtain ⟨-, At, ct, Ab, cb, ho, -, hs, -⟩ := hr
    have HF2 := hid (HF.out.trans (by rw [hq]))
    have HS := hid hs
    have c2 := ho.cellAt 2 (by omega)
    have c3 := ho.cellAt 3 (by omega)
    have c6 := ho.cellAt 6 (by omega)
    simp only [List.getElem?_cons_zero, List.getElem?_cons_succ] at c2 c3 c6
    clear hq ho hs
    go_wp2_with fail
    go_quiet (fail)
    go_wp2_with fail
    go_ret3
    exact RetIIC.own HF2.out (intsN_length _).symm (own_mono (w := w4) HS.out (by have := L4.out; omega)) (below_drewN' B4.out _)
end Go.Proofs.Ytdbjbkdcmhekfaa
