/- A version more: commit and its reference. -/
import Derived.Test.YtmfadjdpbobfhaaDoorCopyV
namespace Go.Proofs.YtmfadjdpbobfhaaDoor
open Go.RowKit
set_option linter.unusedVariables false

/-- versions in new memory, and a code -/
def RetVC (w : World) (r : List DVersion × Int) (e : Ending) (w' : World) : Prop :=
  ∃ A c, e = .returned (.tuple #[.slice A r.1.length c, .int .i64 r.2]) ∧ NestRV w' w.heap.size w'.heap.size 89 135 2 hdVersion inVersion A c r.1 ∧ Below w.heap.size w w'
theorem RetVC.nil {w w' : World} {r : List DVersion × Int} {c : Int} (h : r = ([], c)) (hb : Below w.heap.size w w') : RetVC w r (.returned (.tuple #[.slice none 0 0, .int .i64 c])) w' := by
  subst h
  exact ⟨none, 0, rfl, .inl ⟨rfl, rfl, rfl⟩, hb⟩
theorem RetVC.own {w w' : World} {r : List DVersion × Int} {c : Int} {g cc n : Nat} {ps : List (Nat × Nat)} {l : List DVersion} (h : r = (l, c)) (hn : n = l.length) (hN : NestR w' w.heap.size w'.heap.size 89 135 2 hdVersion inVersion g cc ps l) (hb : Below w.heap.size w w') : RetVC w r (.returned (.tuple #[.slice (some ⟨g, 0, none⟩) n cc, .int .i64 c])) w' := by
  subst h hn
  exact ⟨_, _, rfl, .inr ⟨g, ps, rfl, hN⟩, hb⟩

def newV (xs : List DVersion) (m : Int) (memo : ByteArray) (st : List DSetting) : DVersion := ⟨(xs.length : Int) + 1, m, memo, st⟩
def fAdd (xs : List DVersion) (m : Int) (memo : ByteArray) (st : List DSetting) : List DVersion × Int := if xs.length = 32 then ([], 5) else (xs ++ [newV xs m memo st], 0)

set_option maxHeartbeats 3200000 in
set_option maxRecDepth 100000 in
theorem commit_gen (g0 : Nat) (xs : List DVersion) (m : Int) (memo : ByteArray) (A1 : Option Addr) (c1 : Nat) (st : List DSetting) (w : World) (hA : NestB 2 hdVersion inVersion w g0 xs) (hn : xs.length ≤ 32) (hi : ∀ x ∈ xs, x.fIn.length ≤ 1048576) (hS : RowsAt w 2 A1 (st.map DSetting.cells)) (hs : st.length ≤ 1048576) (hno : A1 = none → c1 = 0) :
    Calls Tryd.prog 58 #[.slice (some ⟨g0, 0, none⟩) xs.length xs.length, .int .i64 m, .string memo, .slice A1 st.length c1] w (RetVC w (fAdd xs m memo st)) := by
  have HA := hid hA
  have HI := hid hi
  have HS := hid hS
  have HNO := hid hno
  clear hA hi hS hno
  by_cases h32 : xs.length = 32
  · have HF := hid (show fAdd xs m memo st = ([], 5) by unfold fAdd; rw [if_pos h32])
    have e3 : ((xs.length : Int) == 32) = true := by rw [beq_iff_eq]; omega
    clear h32
    go_enter Tryd.func58, Tryd.ntmps58
    go_wp2_with fail
    go_ret2
    exact RetVC.nil HF.out (Below.refl _ _)
  · have HF := hid (show fAdd xs m memo st = (xs ++ [newV xs m memo st], 0) by unfold fAdd; rw [if_neg h32])
    have e3 : ((xs.length : Int) == 32) = false := by rw [beq_eq_false_iff_ne]; omega
    have e3' : ¬ ((xs.length : Int) = 32) := by omega
    clear h32
    go_enter Tryd.func58, Tryd.ntmps58
    go_wp2_with fail
    refine (copyHistory_ok g0 xs w HA.out hn HI.out).mono ?_
    rintro e w5 ⟨⟨g, cc, ps, rfl, hN⟩, hb5⟩
    have N5 := hid hN
    have B5 := hid hb5
    have HS5 := hid (HS.out.below hb5)
    clear hN hb5
    go_wp2_with fail
    refine (cloneSetting_ok A1 c1 st _ HS5.out hs HNO.out).mono ?_
    rintro e w6 ⟨g6, rfl, ho6, hb6⟩
    have I6 := hid (own_base ho6)
    have hgb6 := hid (show w5.heap.size ≤ g6 from (ho6.lt _ rfl).1)
    have B56 := hid hb6
    clear ho6 hb6
    go_wp2_with (at_builtin; refine wpList_app_some (w0 := w) rfl (.tmp 14) (.tmp 23) 24 rfl w.heap.size 89 (.agg #[.int .i64 0, .int .i64 0, .string ⟨#[]⟩, .slice none 0 0]) 4 56 Tryd.underlying24 infoVersion rfl (by decide) g _ cc _ rfl ((own_below N5.out.outer B56.out).alloc _) ⟨w6.heap.size, 0, none⟩ 1 1 [.int .i64 ((xs.length : Int) + 1), .int .i64 m, .string memo, .slice (some ⟨g6, 0, none⟩) st.length st.length] rfl rfl (news_new _ #[.int .i64 ((xs.length : Int) + 1), .int .i64 m, .string memo, .slice (some ⟨g6, 0, none⟩) st.length st.length] 89) (by simp [Value.oneCell']) (by omega) (by have h1 := B56.out.size; have h2 := B5.out.size; simp; omega) ((B5.out.trans (B56.out.mono B5.out.size)).alloc (by have h1 := B56.out.size; have h2 := B5.out.size; omega) _) ?_; intro g9 c9 w9 ho9 hg9 he9 hb9)
    have N9 := hid (NestR.snoc (w7 := w6.alloc (.cells #[.int .i64 ((xs.length : Int) + 1), .int .i64 m, .string memo, .slice (some ⟨g6, 0, none⟩) st.length st.length] 89)) (p := (g6, st.length)) (v := newV xs m memo st) N5.out (B56.out.alloc B56.out.size _) hg9 rfl ho9 (by rw [rowR, inVersion_length]; rfl) he9 (by rw [inVersion_length]; exact I6.out.alloc _) hgb6.out)
    go_ret2
    exact RetVC.own HF.out (by rw [List.length_append]; rfl) N9.out hb9

theorem commit_ok (g0 : Nat) (xs : List DVersion) (m : Int) (memo : ByteArray) (g1 : Nat) (st : List DSetting) (w : World) (hA : NestB 2 hdVersion inVersion w g0 xs) (hn : xs.length ≤ 32) (hi : ∀ x ∈ xs, x.fIn.length ≤ 1048576) (hS : RowsAt w 2 (some ⟨g1, 0, none⟩) (st.map DSetting.cells)) (hs : st.length ≤ 1048576) :
    Calls Tryd.prog 58 #[.slice (some ⟨g0, 0, none⟩) xs.length xs.length, .int .i64 m, .string memo, .slice (some ⟨g1, 0, none⟩) st.length st.length] w (RetVC w (fAdd xs m memo st)) := commit_gen g0 xs m memo _ _ st w hA hn hi hS hs (fun h => by cases h)

set_option maxHeartbeats 3200000 in
set_option maxRecDepth 100000 in
theorem l27Add_ok (g0 : Nat) (xs : List DVersion) (m : Int) (memo : ByteArray) (g1 : Nat) (st : List DSetting) (w : World) (hA : NestB 2 hdVersion inVersion w g0 xs) (hn : xs.length ≤ 32) (hi : ∀ x ∈ xs, x.fIn.length ≤ 1048576) (hS : RowsAt w 2 (some ⟨g1, 0, none⟩) (st.map DSetting.cells)) (hs : st.length ≤ 1048576) :
    Calls Tryd.prog 52 #[.slice (some ⟨g0, 0, none⟩) xs.length xs.length, .int .i64 m, .string memo, .slice (some ⟨g1, 0, none⟩) st.length st.length] w (RetVC w (fAdd xs m memo st)) := by
  have HA := hid hA
  have HI := hid hi
  have HS := hid hS
  clear hA hi hS
  by_cases h32 : xs.length = 32
  · have HF := hid (show fAdd xs m memo st = ([], 5) by unfold fAdd; rw [if_pos h32])
    have e3 : ((xs.length : Int) == 32) = true := by rw [beq_iff_eq]; omega
    clear h32
    go_enter Tryd.func52, Tryd.ntmps52
    go_wp2_with fail
    go_ret2
    exact RetVC.nil HF.out (Below.refl _ _)
  · have HF := hid (show fAdd xs m memo st = (xs ++ [newV xs m memo st], 0) by unfold fAdd; rw [if_neg h32])
    have e3 : ((xs.length : Int) == 32) = false := by rw [beq_eq_false_iff_ne]; omega
    have e3' : ¬ ((xs.length : Int) = 32) := by omega
    have HFL := hid (flatSetting_length st)
    have HSB := hid (src_news ((HS.out.below (below_alloc w (.cells #[] 135))).src (cellsSetting_len st) (by omega)))
    have OE := hid (World.ownsRow_lit (e := 135) (size := 2) w #[] 0 (Nat.le_refl _) (by unfold maxLen; omega) rfl)
    clear h32
    go_enter Tryd.func52, Tryd.ntmps52
    go_wp2_with (at_builtin; refine wpList_app_some (w0 := w) rfl (.tmp 19) (.tmp 20) 86 rfl w.heap.size 135 (.agg #[.string ⟨#[]⟩, .int .i64 0]) 2 24 Tryd.underlying86 infoSetting rfl (by decide) w.heap.size 0 0 [] rfl OE.out ⟨g1, 0, none⟩ st.length st.length (st.map DSetting.cells).flatten rfl HFL.out HSB.out (oneSetting st) (by omega) (by simp) (below_alloc _ _) ?_; intro g6 c6 w6 ho6 hg6 he6 hb6; simp only [Nat.zero_add, List.nil_append] at ho6; have I6 := hid (own_base ho6); have B6 := hid hb6; have hgB : w.heap.size ≤ g6 := (ho6.lt _ rfl).1; have hgl6 : g6 < w6.heap.size := (ho6.lt _ rfl).2; clear ho6 hg6 he6 hb6)
    have W7 := hid (below_alloc w6 (.cells #[.int .i64 ((xs.length : Int) + 1), .int .i64 m, .string memo, .slice (some ⟨g6, 0, none⟩) st.length c6] 89))
    have XV := hid (HasC.new w6 [.int .i64 ((xs.length : Int) + 1), .int .i64 m, .string memo, .slice (some ⟨g6, 0, none⟩) st.length c6] 89)
    have y0 := XV.out.2 0 _ rfl
    have y1 := XV.out.2 1 _ rfl
    have y2 := XV.out.2 2 _ rfl
    have y3 := XV.out.2 3 _ rfl
    obtain ⟨W0, hW0⟩ : ∃ W0, W0 = w6.alloc (.cells #[.int .i64 ((xs.length : Int) + 1), .int .i64 m, .string memo, .slice (some ⟨g6, 0, none⟩) st.length c6] 89) := ⟨_, rfl⟩
    have hz0 : W0.heap.size = w6.heap.size + 1 := by rw [hW0]; simp
    have hl0 : w6.heap.size < W0.heap.size := by omega
    have BW := hid (show Below w6.heap.size w6 W0 by rw [hW0]; exact below_alloc _ _)
    rw [← hW0] at y0 y1 y2 y3
    rw [← hW0]
    have HZ0 := hid hz0
    have HA0 := hid (HA.out.below (below_trans B6.out BW.out))
    have B0 := hid (below_trans B6.out BW.out)
    clear hW0 hz0 W7 XV
    have HSx := hid (show ∀ w', Below W0.heap.size W0 w' → (True ∧ Below W0.heap.size W0 w') ∧ w'.cell? ⟨w6.heap.size, 0, none⟩ = some (.int .i64 ((xs.length : Int) + 1)) ∧ w'.cell? ⟨w6.heap.size, 1, none⟩ = some (.int .i64 m) ∧ w'.cell? ⟨w6.heap.size, 2, none⟩ = some (.string memo) ∧ w'.cell? ⟨w6.heap.size, 3, none⟩ = some (.slice (some ⟨g6, 0, none⟩) st.length c6) from fun w' hb => ⟨⟨trivial, hb⟩, (hb.cell (p := ⟨w6.heap.size, 0, none⟩) hl0).trans y0, (hb.cell (p := ⟨w6.heap.size, 1, none⟩) hl0).trans y1, (hb.cell (p := ⟨w6.heap.size, 2, none⟩) hl0).trans y2, (hb.cell (p := ⟨w6.heap.size, 3, none⟩) hl0).trans y3⟩)
    refine wp_region_held_drew (S := (fun w' => (True ∧ Below W0.heap.size W0 w') ∧ w'.cell? ⟨w6.heap.size, 0, none⟩ = some (.int .i64 ((xs.length : Int) + 1)) ∧ w'.cell? ⟨w6.heap.size, 1, none⟩ = some (.int .i64 m) ∧ w'.cell? ⟨w6.heap.size, 2, none⟩ = some (.string memo) ∧ w'.cell? ⟨w6.heap.size, 3, none⟩ = some (.slice (some ⟨g6, 0, none⟩) st.length c6))) (by kernel_rfl) (HSx.out _ (Below.refl _ _).drew) (fun hHeld => ?_)
    refine wpAnyH_take (i := 0) (oi := ⟨some 23, _, _, _, _, _⟩) (v := ?_) rfl (by kernel_rfl) (by kernel_rfl) (by kernel_rfl) (fun _ _ _ h => h) (Or.inl ⟨by rfl, ?_⟩) (by assumption) ?_
    rotate_left
    · (intro w hSw; (try dsimp only at hSw); go_simp; try with_reducible rfl)
    try simp only [Act.put, List.setIfInBounds_toArray, List.set_cons_zero, List.set_cons_succ]
    refine wpAnyH_take (i := 2) (oi := ⟨some 25, _, _, _, _, _⟩) (v := ?_) rfl (by kernel_rfl) (by kernel_rfl) (by kernel_rfl) (fun _ _ _ h => h) (Or.inl ⟨by rfl, ?_⟩) (by assumption) ?_
    rotate_left
    · (intro w hSw; (try dsimp only at hSw); go_simp; try with_reducible rfl)
    try simp only [Act.put, List.setIfInBounds_toArray, List.set_cons_zero, List.set_cons_succ]
    refine wpAnyH_ready (rs := [1, 3]) (by kernel_rfl) (by simp) ?_
    refine AllReadyH.cons (o := ⟨some 24, _, _, _, _, _⟩) rfl (fun K hK => ?_) (AllReadyH.cons (o := ⟨some 26, _, _, _, _, _⟩) rfl (fun K hK => ?_) AllReadyH.nil)
    · go_simp
      go_at_call 98; refine (l27Own_ok g0 xs _ (HA0.out.below (Below.refl _ _).drew) hn HI.out).mono ?_; rintro e w8 ⟨⟨g, cc, ps, rfl, hN⟩, hb8⟩
      have hb8b := hid (show Below W0.heap.size W0 w8 from (Below.refl _ _).drew.trans (hb8.mono (by simp)))
      have N8 := hid hN
      clear hN hb8
      (try go_wp2_with fail)
      refine hK.out _ _ (HSx.out _ hb8b.out) (fun hHeld => ?_)
      clear hK K
      try simp only [Act.put, List.setIfInBounds_toArray, List.set_cons_zero, List.set_cons_succ]
      refine wpAnyH_ready (rs := [3]) (by kernel_rfl) (by simp) ?_
      refine AllReadyH.cons (o := ⟨some 26, _, _, _, _, _⟩) rfl (fun K hK => ?_) AllReadyH.nil
      go_simp
      refine hK.out _ _ (HSx.out _ (hb8b.out.alloc hb8b.out.size _)) (fun hHeld => ?_)
      clear hK K
      try simp only [Act.put, List.setIfInBounds_toArray, List.set_cons_zero, List.set_cons_succ]
      refine wpAnyH_ready (rs := [4]) (by kernel_rfl) (by simp) ?_
      refine AllReadyH.cons (o := ⟨some 27, _, _, _, _, _⟩) rfl (fun K hK => ?_) AllReadyH.nil
      refine step_app_some (w0 := w) rfl (.tmp 24) (.tmp 26) 24 rfl w.heap.size 89 (.agg #[.int .i64 0, .int .i64 0, .string ⟨#[]⟩, .slice none 0 0]) 4 56 Tryd.underlying24 infoVersion rfl (by decide) g _ cc _ rfl (own_mono (N8.out.outer.alloc _) (show w.heap.size ≤ W0.drew.heap.size from B0.out.size)) ⟨w8.heap.size, 0, none⟩ 1 1 [.int .i64 ((xs.length : Int) + 1), .int .i64 m, .string memo, .slice (some ⟨g6, 0, none⟩) st.length c6] rfl rfl (news_new _ #[.int .i64 ((xs.length : Int) + 1), .int .i64 m, .string memo, .slice (some ⟨g6, 0, none⟩) st.length c6] 89) (by simp [Value.oneCell']) (by omega) (by have h1 := hb8b.out.size; have h2 := B0.out.size; simp; omega) (((B0.out.trans (hb8b.out.mono B0.out.size)).alloc (by have h1 := hb8b.out.size; have h2 := B0.out.size; omega) _)) ?_
      intro g9 c9 w9 ho9 hg9 he9 hb9
      have N9 := hid (NestR.snocG (w7 := w8.alloc (.cells #[.int .i64 ((xs.length : Int) + 1), .int .i64 m, .string memo, .slice (some ⟨g6, 0, none⟩) st.length c6] 89)) (p := (g6, c6)) (v := newV xs m memo st) (N8.out.wide (show w.heap.size ≤ W0.drew.heap.size from B0.out.size) (Nat.le_refl _)) (below_alloc _ _) hg9 rfl ho9 (by rw [rowR, inVersion_length]; rfl) he9 (by rw [inVersion_length]; exact ((own_below I6.out (below_trans BW.out hb8b.out)).alloc _)) hgB (fun q hq => by have h := (N8.out.gsl q hq).1; have h2 : W0.drew.heap.size = W0.heap.size := rfl; have := HZ0.out; omega) (by have h := N8.out.gl.1; have h2 : W0.drew.heap.size = W0.heap.size := rfl; have := HZ0.out; omega))
      have hbW9 := hid (show Below W0.heap.size W0 w9 from (hb8b.out.alloc hb8b.out.size _).grown hg9 (by have h1 := hb8b.out.size; simp; omega) (fun k hk => by injection hk with hk; subst hk; exact N8.out.gl.1))
      refine hK.out _ _ (HSx.out _ hbW9.out) (fun hHeld => ?_)
      clear hK K
      try simp only [Act.put, List.setIfInBounds_toArray, List.set_cons_zero, List.set_cons_succ]
      refine wpAnyH_take (i := 5) (oi := ⟨some 8, _, _, _, _, _⟩) (v := ?_) rfl (by kernel_rfl) (by kernel_rfl) (by kernel_rfl) (fun _ _ _ h => h) (Or.inl ⟨by rfl, ?_⟩) (by assumption) ?_
      rotate_left
      · (intro w hSw; (try dsimp only at hSw); go_simp; try with_reducible rfl)
      try simp only [Act.put, List.setIfInBounds_toArray, List.set_cons_zero, List.set_cons_succ]
      refine wpAnyH_take (i := 6) (oi := ⟨some 9, _, _, _, _, _⟩) (v := ?_) rfl (by kernel_rfl) (by kernel_rfl) (by kernel_rfl) (fun _ _ _ h => h) (Or.inl ⟨by rfl, ?_⟩) (by assumption) ?_
      rotate_left
      · (intro w hSw; (try dsimp only at hSw); go_simp; try with_reducible rfl)
      try simp only [Act.put, List.setIfInBounds_toArray, List.set_cons_zero, List.set_cons_succ]
      refine wpAnyH_done (by kernel_rfl) ?_ _
      go_wp2_with fail
      go_ret2
      exact RetVC.own HF.out (by rw [List.length_append]; rfl) N9.out hb9
    · go_simp
      refine hK.out _ _ (HSx.out _ ((Below.refl _ _).drew.alloc (Nat.le_refl _) _)) (fun hHeld => ?_)
      clear hK K
      try simp only [Act.put, List.setIfInBounds_toArray, List.set_cons_zero, List.set_cons_succ]
      refine wpAnyH_ready (rs := [1]) (by kernel_rfl) (by simp) ?_
      refine AllReadyH.cons (o := ⟨some 24, _, _, _, _, _⟩) rfl (fun K hK => ?_) AllReadyH.nil
      go_simp
      go_at_call 98; refine (l27Own_ok g0 xs _ (HA0.out.below ((Below.refl _ _).drew.alloc (Nat.le_refl _) _)) hn HI.out).mono ?_; rintro e w8 ⟨⟨g, cc, ps, rfl, hN⟩, hb8⟩
      have hb8b := hid (show Below W0.heap.size W0 w8 from ((Below.refl _ _).drew.alloc (Nat.le_refl _) _).trans (hb8.mono (by simp)))
      have HNW := hid (show ∀ j u, ([.int .i64 ((xs.length : Int) + 1), .int .i64 m, .string memo, .slice (some ⟨g6, 0, none⟩) st.length c6] : List Value)[j]? = some u → w8.cell? ((⟨W0.heap.size, 0, none⟩ : Addr).add j) = some u from fun j u hu => by
        have e : (⟨W0.heap.size, 0, none⟩ : Addr).add j = ⟨W0.heap.size, j, none⟩ := by unfold Addr.add; split <;> simp_all
        rw [e]
        refine (hb8.cell (p := ⟨W0.heap.size, j, none⟩) (by simp)).trans ?_
        have h := news_new W0.drew #[.int .i64 ((xs.length : Int) + 1), .int .i64 m, .string memo, .slice (some ⟨g6, 0, none⟩) st.length c6] 89 j u hu
        rw [show W0.drew.heap.size = W0.heap.size from rfl, e] at h
        exact h)
      have hzb := hid (show (W0.drew.alloc (.cells #[.int .i64 ((xs.length : Int) + 1), .int .i64 m, .string memo, .slice (some ⟨g6, 0, none⟩) st.length c6] 89)).heap.size = W0.heap.size + 1 by simp)
      have N8 := hid hN
      clear hN hb8
      (try go_wp2_with fail)
      refine hK.out _ _ (HSx.out _ hb8b.out) (fun hHeld => ?_)
      clear hK K
      try simp only [Act.put, List.setIfInBounds_toArray, List.set_cons_zero, List.set_cons_succ]
      refine wpAnyH_ready (rs := [4]) (by kernel_rfl) (by simp) ?_
      refine AllReadyH.cons (o := ⟨some 27, _, _, _, _, _⟩) rfl (fun K hK => ?_) AllReadyH.nil
      refine step_app_some (w0 := w) rfl (.tmp 24) (.tmp 26) 24 rfl w.heap.size 89 (.agg #[.int .i64 0, .int .i64 0, .string ⟨#[]⟩, .slice none 0 0]) 4 56 Tryd.underlying24 infoVersion rfl (by decide) g _ cc _ rfl (own_mono N8.out.outer (by have h := hzb.out; have h2 := B0.out.size; omega)) ⟨W0.heap.size, 0, none⟩ 1 1 [.int .i64 ((xs.length : Int) + 1), .int .i64 m, .string memo, .slice (some ⟨g6, 0, none⟩) st.length c6] rfl rfl HNW.out (by simp [Value.oneCell']) (by omega) (by have h1 := hb8b.out.size; have h2 := B0.out.size; omega) (B0.out.trans (hb8b.out.mono B0.out.size)) ?_
      intro g9 c9 w9 ho9 hg9 he9 hb9
      have N9 := hid (NestR.snocG (w7 := w8) (p := (g6, c6)) (v := newV xs m memo st) (N8.out.wide (show w.heap.size ≤ _ by have h := hzb.out; have h2 := B0.out.size; omega) (Nat.le_refl _)) (Below.refl _ _) hg9 rfl ho9 (by rw [rowR, inVersion_length]; rfl) he9 (by rw [inVersion_length]; exact own_below I6.out (below_trans BW.out hb8b.out)) hgB (fun q hq => by have h := (N8.out.gsl q hq).1; have h2 := hzb.out; have := HZ0.out; omega) (by have h := N8.out.gl.1; have h2 := hzb.out; have := HZ0.out; omega))
      have hbW9 := hid (show Below W0.heap.size W0 w9 from hb8b.out.grown hg9 hb8b.out.size (fun k hk => by injection hk with hk; subst hk; have h := N8.out.gl.1; have h2 := hzb.out; omega))
      refine hK.out _ _ (HSx.out _ hbW9.out) (fun hHeld => ?_)
      clear hK K
      try simp only [Act.put, List.setIfInBounds_toArray, List.set_cons_zero, List.set_cons_succ]
      refine wpAnyH_take (i := 5) (oi := ⟨some 8, _, _, _, _, _⟩) (v := ?_) rfl (by kernel_rfl) (by kernel_rfl) (by kernel_rfl) (fun _ _ _ h => h) (Or.inl ⟨by rfl, ?_⟩) (by assumption) ?_
      rotate_left
      · (intro w hSw; (try dsimp only at hSw); go_simp; try with_reducible rfl)
      try simp only [Act.put, List.setIfInBounds_toArray, List.set_cons_zero, List.set_cons_succ]
      refine wpAnyH_take (i := 6) (oi := ⟨some 9, _, _, _, _, _⟩) (v := ?_) rfl (by kernel_rfl) (by kernel_rfl) (by kernel_rfl) (fun _ _ _ h => h) (Or.inl ⟨by rfl, ?_⟩) (by assumption) ?_
      rotate_left
      · (intro w hSw; (try dsimp only at hSw); go_simp; try with_reducible rfl)
      try simp only [Act.put, List.setIfInBounds_toArray, List.set_cons_zero, List.set_cons_succ]
      refine wpAnyH_done (by kernel_rfl) ?_ _
      go_wp2_with fail
      go_ret2
      exact RetVC.own HF.out (by rw [List.length_append]; rfl) N9.out hb9

end Go.Proofs.YtmfadjdpbobfhaaDoor
