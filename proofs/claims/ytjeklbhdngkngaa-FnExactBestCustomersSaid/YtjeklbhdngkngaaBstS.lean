/- The customers who spent most: the walk of the reference. -/
import Derived.Test.YtjeklbhdngkngaaBstI
import Derived.Test.YtjeklbhdngkngaaBstP
import Derived.BigQuiet
namespace Go.Proofs.Ytjeklbhdngkngaa
open Go.RowKit
set_option linter.unusedVariables false

theorem infoBool : (Try.prog.info? 4).map (fun i => (i.zero, i.size, i.bytes)) = some (some (.bool false), 1, 1) := by kernel_rfl
theorem own_under {w w' : World} {B M K g n c : Nat} {T : TypeId} {l : List Value} (h : w.ownsRow B T K (.slice (some ⟨g, 0, none⟩) n c) n l) (hb : Below M w w') (hg : g < M) : w'.ownsRow B T K (.slice (some ⟨g, 0, none⟩) n c) n l := by
  refine ⟨h.1, ?_⟩
  rcases h.2 with ⟨h0, _⟩ | ⟨g', cap, cur, he, h1, h2, h3⟩
  · cases h0
  · injection he with e1 e2 e3
    injection e1 with e1
    injection e1 with e1
    subst e1
    exact .inr ⟨g, cap, cur, by rw [e3], h1, by rw [hb.block g hg]; exact h2, h3⟩
theorem own_besides {w w' : World} {B K g n c a b : Nat} {T : TypeId} {l : List Value} (h : w.ownsRow B T K (.slice (some ⟨g, 0, none⟩) n c) n l) (hb : Chg a b w w') (hg : g < a ∨ b ≤ g) (hlt : g < w.heap.size) : w'.ownsRow B T K (.slice (some ⟨g, 0, none⟩) n c) n l := by
  refine ⟨h.1, ?_⟩
  rcases h.2 with ⟨h0, _⟩ | ⟨g', cap, cur, he, h1, h2, h3⟩
  · cases h0
  · injection he with e1 e2 e3
    injection e1 with e1
    injection e1 with e1
    subst e1
    exact .inr ⟨g, cap, cur, by rw [e3], h1, by rw [hb.block g hlt hg]; exact h2, h3⟩
def lenS : Value → Nat
  | .slice _ n _ => n
  | _ => 0
theorem l22Customers_gen (A : Option Addr) (c : Nat) (xs : List DVisit) (w : World) (hA : RowsAt w 4 A (xs.map DVisit.cells)) (hn : xs.length ≤ 64) (F : List Str) (hF : namesV xs = F) :
    Calls Try.prog 101 #[.slice A xs.length c] w fun e w' => (∃ g c', e = .returned (.slice (some ⟨g, 0, none⟩) F.length c') ∧ w'.ownsRow w.heap.size 9 1 (.slice (some ⟨g, 0, none⟩) F.length c') F.length (F.map vS)) ∧ Below w.heap.size w w' := by
  subst hF
  exact l22Customers_ok A c xs w hA hn
set_option maxHeartbeats 1600000 in
set_option maxRecDepth 100000 in
theorem specBst_ok (g0 : Nat) (xs : List DVisit) (m : Int) (w : World) (hA : RowsAt w 4 (some ⟨g0, 0, none⟩) (xs.map DVisit.cells)) (hok : ∀ x ∈ xs, x.ok) (hn : xs.length ≤ 1048576) :
    Calls Try.prog 37 #[.slice (some ⟨g0, 0, none⟩) xs.length xs.length, .int .i64 m] w (RetSC w (fBst xs m)) := by
  have HA := hid hA
  have HK := hid hok
  obtain ⟨i0, hi, hz0, hz1, hz2⟩ := info_parts infoBool
  clear hA hok
  cases c1 : visitsB xs
  · have HF := hid (show fBst xs m = ([], 1) by unfold fBst; rw [if_pos c1])
    go_enter Try.func37, Try.ntmps37
    go_wp2_with fail
    refine (l22Ok_ok _ _ xs _ HA.out HK.out hn).mono ?_
    rintro e w1 ⟨rfl, hb⟩
    have B1 := hid hb
    clear hb
    go_wp2_with fail
    go_ret2
    exact RetSC.nil HF.out B1.out
  have h32 := (visitsB_iff.1 c1).2
  have HV := hid (visitsB_iff.1 c1).1
  have HAM := hid (visits_amt HV.out)
  cases c2 : inB m 0 32
  · have HF := hid (show fBst xs m = ([], 2) by unfold fBst; rw [if_neg (by rw [c1]; exact fun h => by cases h), if_pos c2])
    go_enter Try.func37, Try.ntmps37
    go_wp2_with fail
    refine (l22Ok_ok _ _ xs _ HA.out HK.out hn).mono ?_
    rintro e w1 ⟨rfl, hb⟩
    have B1 := hid hb
    clear hb
    go_wp2_with (go_at_call 100; refine (l00In_ok _ _ _ _).mono ?_; rintro e w' ⟨rfl, rfl⟩)
    go_ret2
    exact RetSC.nil HF.out B1.out
  have hm := inB_iff.1 c2
  obtain ⟨k, rfl⟩ : ∃ k : Nat, m = (k : Int) := ⟨m.toNat, by omega⟩
  obtain ⟨F, hF⟩ : ∃ F, namesV xs = F := ⟨_, rfl⟩
  have hFl : F.length ≤ 32 := by have := namesV_len xs; rw [hF] at this; omega
  have HF := hid (show fBst xs (k : Int) = ((srtK (keyN xs) F).take k, 0) by unfold fBst; rw [if_neg (by rw [c1]; exact fun h => by cases h), if_neg (by rw [c2]; exact fun h => by cases h), hF]; rfl)
  have HFN := hid hF
  clear hF
  go_enter Try.func37, Try.ntmps37
  go_wp2_with fail
  refine (l22Ok_ok _ _ xs _ HA.out HK.out hn).mono ?_
  rintro e w1 ⟨rfl, hb⟩
  have B1 := hid hb
  clear hb
  go_wp2_with (first
    | (go_at_call 100; refine (l00In_ok _ _ _ _).mono ?_; rintro e w' ⟨rfl, rfl⟩)
    | (go_at_call 101; refine (l22Customers_gen _ _ xs _ (HA.out.below B1.out) (by omega) F HFN.out).mono ?_; rintro e w2 ⟨⟨g2, c2, rfl, ho⟩, hb2⟩; have B2 := hid hb2; have O2 := hid ho; clear ho hb2)
    | (at_make; refine wpList_make_full _ rfl _ _ _ rfl w2.heap.size 4 i0 (.bool false) 1 Try.underlying136 hi hz0 hz1 .i64 .i64 _ _ F.length rfl rfl rfl rfl (by rw [hz2]; omega) (by unfold maxLen; omega) (Nat.le_refl _) ?_; intro w3 hown3 hg3; have B3 := hid ((Below.refl w2.heap.size w2).grown hg3 (Nat.le_refl _) (fun k hk => by cases hk)); have O3 := hid hown3; clear hown3 hg3))
  have hlt2 := O2.out.lt g2 rfl
  have hlt3 := O3.out.lt w2.heap.size rfl
  have B1S := hid (below_trans B2.out B3.out)
  have L2 := hid hlt2
  have L3 := hid hlt3
  clear hlt2 hlt3
  go_loopw [8] (fun v8 wr => ∃ (us : List Bool) (O : List Str) (go co : Nat), (v8 = .slice (some ⟨go, 0, none⟩) O.length co) ∧ Hid (us.length = F.length ∧ O ++ srtK (keyN xs) (unU F us) = srtK (keyN xs) F) ∧ O.length + (unU F us).length = F.length ∧ O.length ≤ k ∧ (wr.ownsRow w1.heap.size 9 1 (.slice (some ⟨g2, 0, none⟩) F.length c2) F.length (F.map vS) ∧ wr.ownsRow w2.heap.size 4 1 (.slice (some ⟨w2.heap.size, 0, none⟩) F.length F.length) F.length (us.map Value.bool) ∧ wr.ownsRow w3.heap.size 9 1 (.slice (some ⟨go, 0, none⟩) O.length co) O.length (O.map vS)) ∧ Below w1.heap.size w1 wr ∧ w3.heap.size ≤ wr.heap.size) (fun v8 _ => 32 - lenS v8)
  case atStart =>
    refine ⟨List.replicate F.length false, [], _, _, rfl, ⟨by simp, by rw [unU_init]; rfl⟩, by rw [unU_init]; simp, Nat.zero_le _, ⟨(own_below O2.out B3.out).alloc _, World.ownsRow.alloc ?_ _, World.ownsRow_lit _ _ 0 (Nat.le_refl _) (by unfold maxLen; omega) rfl⟩, (B1S.out).alloc (by have := B1S.out.size; have := B2.out.size; have := B3.out.size; omega) _, by simp⟩
    have h9 := O3.out
    rw [made_one _ _ rfl] at h9
    rw [List.map_replicate]
    exact h9
  case round =>
    obtain ⟨us, O, go, co, rfl, HI, hlen, hOk, ⟨ho1, ho2, ho3⟩, hbel, hsz⟩ := hrel
    have O4 := hid ho1
    have O5 := hid ho2
    have O6 := hid ho3
    have B4 := hid hbel
    have L4 := hid (ho3.lt go rfl)
    have HS4 := hid hsz
    clear ho1 ho2 ho3 hbel hsz
    by_cases hgo : O.length < k ∧ O.length < F.length
    · obtain ⟨hg1, hg2⟩ := hgo
      have e1 : (O.length : Int) < (k : Int) := by omega
      have e2 : (O.length : Int) < (F.length : Int) := by omega
      have HLN := hid hlen
      clear hlen
      rename World => wo
      go_wp2_with fail
      go_loopw [9, 10] (fun v9 v10 wr2 => ∃ i : Nat, (v10 = .int .i64 (i : Int) ∧ i ≤ F.length) ∧ ((v9 = .int .i64 (-1) ∧ NoneAt us i) ∨ ∃ b : Nat, v9 = .int .i64 (b : Int) ∧ BestAt (keyN xs) F us i b) ∧ Below wo.heap.size wo wr2) (fun _ v10 _ => F.length - (intOf v10).toNat)
      case atStart => exact ⟨0, ⟨rfl, Nat.zero_le _⟩, .inl ⟨rfl, fun j hj => by omega⟩, Below.refl _ _⟩
      case round =>
        obtain ⟨i, ⟨rfl, hi⟩, hbest, hbel⟩ := hrel
        have B5 := hid hbel
        clear hbel
        have HNM := hid (own_below O4.out B5.out)
        have HUS := hid (own_below O5.out B5.out)
        have hlg := (HNM.out.lt g2 rfl).2
        have hlu := (HUS.out.lt w2.heap.size rfl).2
        by_cases hiF : i < F.length
        · obtain ⟨z, hz⟩ : ∃ z, F[i]? = some z := ⟨_, List.getElem?_eq_getElem hiF⟩
          obtain ⟨u, hu⟩ : ∃ u, us[i]? = some u := ⟨_, List.getElem?_eq_getElem (by rw [HI.out.1]; exact hiF)⟩
          have q0 : (0 : Int) ≤ (i : Int) := by omega
          have q1 : (i : Int) < (F.length : Int) := by omega
          have a0 : wr.cell? ⟨w2.heap.size, i, none⟩ = some (.bool u) := by rw [HUS.out.cellAt i (by omega), List.getElem?_map, hu]; rfl
          have a1 : wr.cell? ⟨g2, i, none⟩ = some (.string (tB z)) := by rw [HNM.out.cellAt i (by omega), List.getElem?_map, hz]; rfl
          have HZ := hid hz
          have HU := hid hu
          clear hz hu
          cases u
          · rcases hbest with ⟨rfl, hno⟩ | ⟨b, rfl, hbb⟩
            · have HBN := hid (hno.first (key := keyN xs) HZ.out HU.out)
              clear hno
              go_wp2_with fail
              go_big_quiet (fail)
              go_wp2_with fail
              go_roundw
              case rel => exact ⟨i + 1, ⟨by go_num, by omega⟩, .inr ⟨i, rfl, HBN.out⟩, below_drewN' B5.out _⟩
              case measure => simp [intOf]; omega
            · have HBB := hid hbb
              obtain ⟨x, ⟨hx, -⟩, hbi, -⟩ := hbb
              have p0 : (0 : Int) ≤ (b : Int) := by omega
              have p1 : (b : Int) < (F.length : Int) := by omega
              have p2 : decide ((b : Int) < 0) = false := decide_eq_false (by omega)
              have a2 : wr.cell? ⟨g2, b, none⟩ = some (.string (tB x)) := by rw [HNM.out.cellAt b (by omega), List.getElem?_map, hx]; rfl
              obtain ⟨rz, hrz⟩ : ∃ r, spentI xs (tB z) = r := ⟨_, rfl⟩
              obtain ⟨rx, hrx⟩ : ∃ r, spentI xs (tB x) = r := ⟨_, rfl⟩
              have HRZ := hid hrz
              have HRX := hid hrx
              have HXX := hid hx
              have HR := hid (HA.out.below (B1.out.trans ((B4.out.trans (B5.out.mono (by have := B4.out.size; exact this))).mono B1.out.size)))
              clear hrz hrx hx
              by_cases hk : rx < rz
              · have d1 : decide (rx < rz) = true := decide_eq_true hk
                have HBN := hid (HBB.out.next HXX.out HZ.out HU.out (show keyN xs z < keyN xs x by unfold keyN keyB; rw [HRZ.out, HRX.out]; omega))
                go_wp2_with fail
                refine wp_region_held_drew (S := (fun w' => (True ∧ Below wr.heap.size wr w') ∧ w'.cell? ⟨w2.heap.size, i, none⟩ = some (.bool false) ∧ w'.cell? ⟨g2, i, none⟩ = some (.string (tB z)) ∧ w'.cell? ⟨g2, b, none⟩ = some (.string (tB x)))) (by kernel_rfl) ⟨⟨trivial, (Below.refl _ _).drew⟩, a0, a1, a2⟩ (fun hHeld => ?_)
                refine wpAnyH_take (i := 0) (oi := ⟨some 40, _, _, _, _, _⟩) (v := ?_) rfl (by kernel_rfl) (by kernel_rfl) (by kernel_rfl) (fun _ _ _ h => h) (Or.inl ⟨by rfl, ?_⟩) (by assumption) ?_
                rotate_left
                · (intro w hSw; (try dsimp only at hSw); go_simp; try with_reducible rfl)
                try simp only [Act.put, List.setIfInBounds_toArray, List.set_cons_zero, List.set_cons_succ]
                refine wpAnyH_take (i := 1) (oi := ⟨some 41, _, _, _, _, _⟩) (v := ?_) rfl (by kernel_rfl) (by kernel_rfl) (by kernel_rfl) (fun _ _ _ h => h) (Or.inl ⟨by rfl, ?_⟩) (by assumption) ?_
                rotate_left
                · (intro w hSw; (try dsimp only at hSw); go_simp; try with_reducible rfl)
                try simp only [Act.put, List.setIfInBounds_toArray, List.set_cons_zero, List.set_cons_succ]
                refine wpAnyH_take (i := 2) (oi := ⟨some 42, _, _, _, _, _⟩) (v := ?_) rfl (by kernel_rfl) (by kernel_rfl) (by kernel_rfl) (fun _ _ _ h => h) (Or.inl ⟨by rfl, ?_⟩) (by assumption) ?_
                rotate_left
                · (intro w hSw; (try dsimp only at hSw); go_simp; try with_reducible rfl)
                try simp only [Act.put, List.setIfInBounds_toArray, List.set_cons_zero, List.set_cons_succ]
                refine wpAnyH_take (i := 3) (oi := ⟨some 43, _, _, _, _, _⟩) (v := ?_) rfl (by kernel_rfl) (by kernel_rfl) (by kernel_rfl) (fun _ _ _ h => h) (Or.inl ⟨by rfl, ?_⟩) (by assumption) ?_
                rotate_left
                · (intro w hSw; (try dsimp only at hSw); go_simp; try with_reducible rfl)
                try simp only [Act.put, List.setIfInBounds_toArray, List.set_cons_zero, List.set_cons_succ]
                refine wpAnyH_take (i := 4) (oi := ⟨some 44, _, _, _, _, _⟩) (v := ?_) rfl (by kernel_rfl) (by kernel_rfl) (by kernel_rfl) (fun _ _ _ h => h) (Or.inl ⟨by rfl, ?_⟩) (by assumption) ?_
                rotate_left
                · (intro w hSw; (try dsimp only at hSw); go_simp; try with_reducible rfl)
                try simp only [Act.put, List.setIfInBounds_toArray, List.set_cons_zero, List.set_cons_succ]
                refine wpAnyH_take (i := 5) (oi := ⟨some 45, _, _, _, _, _⟩) (v := ?_) rfl (by kernel_rfl) (by kernel_rfl) (by kernel_rfl) (fun _ _ _ h => h) (Or.inl ⟨by rfl, ?_⟩) (by assumption) ?_
                rotate_left
                · (intro w hSw; (try dsimp only at hSw); go_simp; try with_reducible rfl)
                try simp only [Act.put, List.setIfInBounds_toArray, List.set_cons_zero, List.set_cons_succ]
                refine wpAnyH_take (i := 6) (oi := ⟨some 46, _, _, _, _, _⟩) (v := ?_) rfl (by kernel_rfl) (by kernel_rfl) (by kernel_rfl) (fun _ _ _ h => h) (Or.inl ⟨by rfl, ?_⟩) (by assumption) ?_
                rotate_left
                · (intro w hSw; (try dsimp only at hSw); go_simp; try with_reducible rfl)
                try simp only [Act.put, List.setIfInBounds_toArray, List.set_cons_zero, List.set_cons_succ]
                refine wpAnyH_take (i := 7) (oi := ⟨some 47, _, _, _, _, _⟩) (v := ?_) rfl (by kernel_rfl) (by kernel_rfl) (by kernel_rfl) (fun _ _ _ h => h) (Or.inl ⟨by rfl, ?_⟩) (by assumption) ?_
                rotate_left
                · (intro w hSw; (try dsimp only at hSw); go_simp; try with_reducible rfl)
                try simp only [Act.put, List.setIfInBounds_toArray, List.set_cons_zero, List.set_cons_succ]
                refine wpAnyH_take (i := 8) (oi := ⟨some 48, _, _, _, _, _⟩) (v := ?_) rfl (by kernel_rfl) (by kernel_rfl) (by kernel_rfl) (fun _ _ _ h => h) (Or.inl ⟨by rfl, ?_⟩) (by assumption) ?_
                rotate_left
                · (intro w hSw; (try dsimp only at hSw); go_simp; try with_reducible rfl)
                try simp only [Act.put, List.setIfInBounds_toArray, List.set_cons_zero, List.set_cons_succ]
                refine wpAnyH_take (i := 9) (oi := ⟨some 49, _, _, _, _, _⟩) (v := ?_) rfl (by kernel_rfl) (by kernel_rfl) (by kernel_rfl) (fun _ _ _ h => h) (Or.inl ⟨by rfl, ?_⟩) (by assumption) ?_
                rotate_left
                · (intro w hSw; (try dsimp only at hSw); go_simp; try with_reducible rfl)
                try simp only [Act.put, List.setIfInBounds_toArray, List.set_cons_zero, List.set_cons_succ]
                refine wpAnyH_take (i := 10) (oi := ⟨some 50, _, _, _, _, _⟩) (v := ?_) rfl (by kernel_rfl) (by kernel_rfl) (by kernel_rfl) (fun _ _ _ h => h) (Or.inl ⟨by rfl, ?_⟩) (by assumption) ?_
                rotate_left
                · (intro w hSw; (try dsimp only at hSw); go_simp; try with_reducible rfl)
                try simp only [Act.put, List.setIfInBounds_toArray, List.set_cons_zero, List.set_cons_succ]
                refine wpAnyH_take (i := 11) (oi := ⟨some 51, _, _, _, _, _⟩) (v := ?_) rfl (by kernel_rfl) (by kernel_rfl) (by kernel_rfl) (fun _ _ _ h => h) (Or.inl ⟨by rfl, ?_⟩) (by assumption) ?_
                rotate_left
                · (intro w hSw; (try dsimp only at hSw); go_simp; try with_reducible rfl)
                try simp only [Act.put, List.setIfInBounds_toArray, List.set_cons_zero, List.set_cons_succ]
                refine wpAnyH_take (i := 12) (oi := ⟨some 52, _, _, _, _, _⟩) (v := ?_) rfl (by kernel_rfl) (by kernel_rfl) (by kernel_rfl) (fun _ _ _ h => h) (Or.inl ⟨by rfl, ?_⟩) (by assumption) ?_
                rotate_left
                · (intro w hSw; (try dsimp only at hSw); go_simp; try with_reducible rfl)
                try simp only [Act.put, List.setIfInBounds_toArray, List.set_cons_zero, List.set_cons_succ]
                refine wpAnyH_take (i := 13) (oi := ⟨some 53, _, _, _, _, _⟩) (v := ?_) rfl (by kernel_rfl) (by kernel_rfl) (by kernel_rfl) (fun _ _ _ h => h) (Or.inl ⟨by rfl, ?_⟩) (by assumption) ?_
                rotate_left
                · (intro w hSw; (try dsimp only at hSw); go_simp; try with_reducible rfl)
                try simp only [Act.put, List.setIfInBounds_toArray, List.set_cons_zero, List.set_cons_succ]
                refine wpAnyH_take (i := 15) (oi := ⟨some 55, _, _, _, _, _⟩) (v := ?_) rfl (by kernel_rfl) (by kernel_rfl) (by kernel_rfl) (fun _ _ _ h => h) (Or.inl ⟨by rfl, ?_⟩) (by assumption) ?_
                rotate_left
                · (intro w hSw; (try dsimp only at hSw); go_simp; try with_reducible rfl)
                try simp only [Act.put, List.setIfInBounds_toArray, List.set_cons_zero, List.set_cons_succ]
                refine wpAnyH_take (i := 16) (oi := ⟨some 56, _, _, _, _, _⟩) (v := ?_) rfl (by kernel_rfl) (by kernel_rfl) (by kernel_rfl) (fun _ _ _ h => h) (Or.inl ⟨by rfl, ?_⟩) (by assumption) ?_
                rotate_left
                · (intro w hSw; (try dsimp only at hSw); go_simp; try with_reducible rfl)
                try simp only [Act.put, List.setIfInBounds_toArray, List.set_cons_zero, List.set_cons_succ]
                refine wpAnyH_take (i := 17) (oi := ⟨some 57, _, _, _, _, _⟩) (v := ?_) rfl (by kernel_rfl) (by kernel_rfl) (by kernel_rfl) (fun _ _ _ h => h) (Or.inl ⟨by rfl, ?_⟩) (by assumption) ?_
                rotate_left
                · (intro w hSw; (try dsimp only at hSw); go_simp; try with_reducible rfl)
                try simp only [Act.put, List.setIfInBounds_toArray, List.set_cons_zero, List.set_cons_succ]
                refine wpAnyH_take (i := 18) (oi := ⟨some 58, _, _, _, _, _⟩) (v := ?_) rfl (by kernel_rfl) (by kernel_rfl) (by kernel_rfl) (fun _ _ _ h => h) (Or.inl ⟨by rfl, ?_⟩) (by assumption) ?_
                rotate_left
                · (intro w hSw; (try dsimp only at hSw); go_simp; try with_reducible rfl)
                try simp only [Act.put, List.setIfInBounds_toArray, List.set_cons_zero, List.set_cons_succ]
                refine wpAnyH_take (i := 19) (oi := ⟨some 59, _, _, _, _, _⟩) (v := ?_) rfl (by kernel_rfl) (by kernel_rfl) (by kernel_rfl) (fun _ _ _ h => h) (Or.inl ⟨by rfl, ?_⟩) (by assumption) ?_
                rotate_left
                · (intro w hSw; (try dsimp only at hSw); go_simp; try with_reducible rfl)
                try simp only [Act.put, List.setIfInBounds_toArray, List.set_cons_zero, List.set_cons_succ]
                refine wpAnyH_ready (rs := [14]) (by kernel_rfl) (by simp) ?_
                refine AllReadyH.cons (o := ⟨some 54, _, _, _, _, _⟩) rfl (fun K hK => ?_) AllReadyH.nil
                go_simp
                go_at_call 102; refine (l22Spent_ok _ _ xs (tB z) _ (HR.out.below hHeld.1.2) h32 HAM.out rz HRZ.out).mono ?_; rintro e w6 ⟨rfl, rfl⟩
                (try go_wp2_with fail)
                refine hK.out _ _ (hHeld) (fun hHeld => ?_)
                clear hK K
                try simp only [Act.put, List.setIfInBounds_toArray, List.set_cons_zero, List.set_cons_succ]
                refine wpAnyH_ready (rs := [20]) (by kernel_rfl) (by simp) ?_
                refine AllReadyH.cons (o := ⟨some 60, _, _, _, _, _⟩) rfl (fun K hK => ?_) AllReadyH.nil
                go_simp
                go_at_call 102; refine (l22Spent_ok _ _ xs (tB x) _ (HR.out.below hHeld.1.2) h32 HAM.out rx HRX.out).mono ?_; rintro e w6 ⟨rfl, rfl⟩
                (try go_wp2_with fail)
                refine hK.out _ _ (hHeld) (fun hHeld => ?_)
                clear hK K
                try simp only [Act.put, List.setIfInBounds_toArray, List.set_cons_zero, List.set_cons_succ]
                refine wpAnyH_take (i := 21) (oi := ⟨some 61, _, _, _, _, _⟩) (v := ?_) rfl (by kernel_rfl) (by kernel_rfl) (by kernel_rfl) (fun _ _ _ h => h) (Or.inl ⟨by rfl, ?_⟩) (by assumption) ?_
                rotate_left
                · (intro w hSw; (try dsimp only at hSw); go_simp; try with_reducible rfl)
                try simp only [Act.put, List.setIfInBounds_toArray, List.set_cons_zero, List.set_cons_succ]
                refine wpAnyH_take (i := 22) (oi := ⟨some 62, _, _, _, _, _⟩) (v := ?_) rfl (by kernel_rfl) (by kernel_rfl) (by kernel_rfl) (fun _ _ _ h => h) (Or.inl ⟨by rfl, ?_⟩) (by assumption) ?_
                rotate_left
                · (intro w hSw; (try dsimp only at hSw); go_simp; try with_reducible rfl)
                try simp only [Act.put, List.setIfInBounds_toArray, List.set_cons_zero, List.set_cons_succ]
                refine wpAnyH_take (i := 23) (oi := ⟨some 63, _, _, _, _, _⟩) (v := ?_) rfl (by kernel_rfl) (by kernel_rfl) (by kernel_rfl) (fun _ _ _ h => h) (Or.inl ⟨by rfl, ?_⟩) (by assumption) ?_
                rotate_left
                · (intro w hSw; (try dsimp only at hSw); go_simp; try with_reducible rfl)
                try simp only [Act.put, List.setIfInBounds_toArray, List.set_cons_zero, List.set_cons_succ]
                refine wpAnyH_done (by kernel_rfl) ?_ _
                obtain ⟨⟨-, hBw⟩, -⟩ := hHeld
                have B6 := hid (below_trans B5.out hBw)
                clear hBw a0 a1 a2
                go_wp2_with fail
                go_roundw
                case rel => exact ⟨i + 1, ⟨by go_num, by omega⟩, .inr ⟨i, rfl, HBN.out⟩, B6.out⟩
                case measure => simp [intOf]; omega
              · have d1 : decide (rx < rz) = false := decide_eq_false hk
                have HBN := hid (HBB.out.keep (fun x' y' h1 h2 _ => by
                  rw [HXX.out] at h1
                  rw [HZ.out] at h2
                  injection h1 with h1
                  injection h2 with h2
                  subst h1 h2
                  unfold keyN keyB
                  rw [HRZ.out, HRX.out]
                  omega))
                go_wp2_with fail
                refine wp_region_held_drew (S := (fun w' => (True ∧ Below wr.heap.size wr w') ∧ w'.cell? ⟨w2.heap.size, i, none⟩ = some (.bool false) ∧ w'.cell? ⟨g2, i, none⟩ = some (.string (tB z)) ∧ w'.cell? ⟨g2, b, none⟩ = some (.string (tB x)))) (by kernel_rfl) ⟨⟨trivial, (Below.refl _ _).drew⟩, a0, a1, a2⟩ (fun hHeld => ?_)
                refine wpAnyH_take (i := 0) (oi := ⟨some 40, _, _, _, _, _⟩) (v := ?_) rfl (by kernel_rfl) (by kernel_rfl) (by kernel_rfl) (fun _ _ _ h => h) (Or.inl ⟨by rfl, ?_⟩) (by assumption) ?_
                rotate_left
                · (intro w hSw; (try dsimp only at hSw); go_simp; try with_reducible rfl)
                try simp only [Act.put, List.setIfInBounds_toArray, List.set_cons_zero, List.set_cons_succ]
                refine wpAnyH_take (i := 1) (oi := ⟨some 41, _, _, _, _, _⟩) (v := ?_) rfl (by kernel_rfl) (by kernel_rfl) (by kernel_rfl) (fun _ _ _ h => h) (Or.inl ⟨by rfl, ?_⟩) (by assumption) ?_
                rotate_left
                · (intro w hSw; (try dsimp only at hSw); go_simp; try with_reducible rfl)
                try simp only [Act.put, List.setIfInBounds_toArray, List.set_cons_zero, List.set_cons_succ]
                refine wpAnyH_take (i := 2) (oi := ⟨some 42, _, _, _, _, _⟩) (v := ?_) rfl (by kernel_rfl) (by kernel_rfl) (by kernel_rfl) (fun _ _ _ h => h) (Or.inl ⟨by rfl, ?_⟩) (by assumption) ?_
                rotate_left
                · (intro w hSw; (try dsimp only at hSw); go_simp; try with_reducible rfl)
                try simp only [Act.put, List.setIfInBounds_toArray, List.set_cons_zero, List.set_cons_succ]
                refine wpAnyH_take (i := 3) (oi := ⟨some 43, _, _, _, _, _⟩) (v := ?_) rfl (by kernel_rfl) (by kernel_rfl) (by kernel_rfl) (fun _ _ _ h => h) (Or.inl ⟨by rfl, ?_⟩) (by assumption) ?_
                rotate_left
                · (intro w hSw; (try dsimp only at hSw); go_simp; try with_reducible rfl)
                try simp only [Act.put, List.setIfInBounds_toArray, List.set_cons_zero, List.set_cons_succ]
                refine wpAnyH_take (i := 4) (oi := ⟨some 44, _, _, _, _, _⟩) (v := ?_) rfl (by kernel_rfl) (by kernel_rfl) (by kernel_rfl) (fun _ _ _ h => h) (Or.inl ⟨by rfl, ?_⟩) (by assumption) ?_
                rotate_left
                · (intro w hSw; (try dsimp only at hSw); go_simp; try with_reducible rfl)
                try simp only [Act.put, List.setIfInBounds_toArray, List.set_cons_zero, List.set_cons_succ]
                refine wpAnyH_take (i := 5) (oi := ⟨some 45, _, _, _, _, _⟩) (v := ?_) rfl (by kernel_rfl) (by kernel_rfl) (by kernel_rfl) (fun _ _ _ h => h) (Or.inl ⟨by rfl, ?_⟩) (by assumption) ?_
                rotate_left
                · (intro w hSw; (try dsimp only at hSw); go_simp; try with_reducible rfl)
                try simp only [Act.put, List.setIfInBounds_toArray, List.set_cons_zero, List.set_cons_succ]
                refine wpAnyH_take (i := 6) (oi := ⟨some 46, _, _, _, _, _⟩) (v := ?_) rfl (by kernel_rfl) (by kernel_rfl) (by kernel_rfl) (fun _ _ _ h => h) (Or.inl ⟨by rfl, ?_⟩) (by assumption) ?_
                rotate_left
                · (intro w hSw; (try dsimp only at hSw); go_simp; try with_reducible rfl)
                try simp only [Act.put, List.setIfInBounds_toArray, List.set_cons_zero, List.set_cons_succ]
                refine wpAnyH_take (i := 7) (oi := ⟨some 47, _, _, _, _, _⟩) (v := ?_) rfl (by kernel_rfl) (by kernel_rfl) (by kernel_rfl) (fun _ _ _ h => h) (Or.inl ⟨by rfl, ?_⟩) (by assumption) ?_
                rotate_left
                · (intro w hSw; (try dsimp only at hSw); go_simp; try with_reducible rfl)
                try simp only [Act.put, List.setIfInBounds_toArray, List.set_cons_zero, List.set_cons_succ]
                refine wpAnyH_take (i := 8) (oi := ⟨some 48, _, _, _, _, _⟩) (v := ?_) rfl (by kernel_rfl) (by kernel_rfl) (by kernel_rfl) (fun _ _ _ h => h) (Or.inl ⟨by rfl, ?_⟩) (by assumption) ?_
                rotate_left
                · (intro w hSw; (try dsimp only at hSw); go_simp; try with_reducible rfl)
                try simp only [Act.put, List.setIfInBounds_toArray, List.set_cons_zero, List.set_cons_succ]
                refine wpAnyH_take (i := 9) (oi := ⟨some 49, _, _, _, _, _⟩) (v := ?_) rfl (by kernel_rfl) (by kernel_rfl) (by kernel_rfl) (fun _ _ _ h => h) (Or.inl ⟨by rfl, ?_⟩) (by assumption) ?_
                rotate_left
                · (intro w hSw; (try dsimp only at hSw); go_simp; try with_reducible rfl)
                try simp only [Act.put, List.setIfInBounds_toArray, List.set_cons_zero, List.set_cons_succ]
                refine wpAnyH_take (i := 10) (oi := ⟨some 50, _, _, _, _, _⟩) (v := ?_) rfl (by kernel_rfl) (by kernel_rfl) (by kernel_rfl) (fun _ _ _ h => h) (Or.inl ⟨by rfl, ?_⟩) (by assumption) ?_
                rotate_left
                · (intro w hSw; (try dsimp only at hSw); go_simp; try with_reducible rfl)
                try simp only [Act.put, List.setIfInBounds_toArray, List.set_cons_zero, List.set_cons_succ]
                refine wpAnyH_take (i := 11) (oi := ⟨some 51, _, _, _, _, _⟩) (v := ?_) rfl (by kernel_rfl) (by kernel_rfl) (by kernel_rfl) (fun _ _ _ h => h) (Or.inl ⟨by rfl, ?_⟩) (by assumption) ?_
                rotate_left
                · (intro w hSw; (try dsimp only at hSw); go_simp; try with_reducible rfl)
                try simp only [Act.put, List.setIfInBounds_toArray, List.set_cons_zero, List.set_cons_succ]
                refine wpAnyH_take (i := 12) (oi := ⟨some 52, _, _, _, _, _⟩) (v := ?_) rfl (by kernel_rfl) (by kernel_rfl) (by kernel_rfl) (fun _ _ _ h => h) (Or.inl ⟨by rfl, ?_⟩) (by assumption) ?_
                rotate_left
                · (intro w hSw; (try dsimp only at hSw); go_simp; try with_reducible rfl)
                try simp only [Act.put, List.setIfInBounds_toArray, List.set_cons_zero, List.set_cons_succ]
                refine wpAnyH_take (i := 13) (oi := ⟨some 53, _, _, _, _, _⟩) (v := ?_) rfl (by kernel_rfl) (by kernel_rfl) (by kernel_rfl) (fun _ _ _ h => h) (Or.inl ⟨by rfl, ?_⟩) (by assumption) ?_
                rotate_left
                · (intro w hSw; (try dsimp only at hSw); go_simp; try with_reducible rfl)
                try simp only [Act.put, List.setIfInBounds_toArray, List.set_cons_zero, List.set_cons_succ]
                refine wpAnyH_take (i := 15) (oi := ⟨some 55, _, _, _, _, _⟩) (v := ?_) rfl (by kernel_rfl) (by kernel_rfl) (by kernel_rfl) (fun _ _ _ h => h) (Or.inl ⟨by rfl, ?_⟩) (by assumption) ?_
                rotate_left
                · (intro w hSw; (try dsimp only at hSw); go_simp; try with_reducible rfl)
                try simp only [Act.put, List.setIfInBounds_toArray, List.set_cons_zero, List.set_cons_succ]
                refine wpAnyH_take (i := 16) (oi := ⟨some 56, _, _, _, _, _⟩) (v := ?_) rfl (by kernel_rfl) (by kernel_rfl) (by kernel_rfl) (fun _ _ _ h => h) (Or.inl ⟨by rfl, ?_⟩) (by assumption) ?_
                rotate_left
                · (intro w hSw; (try dsimp only at hSw); go_simp; try with_reducible rfl)
                try simp only [Act.put, List.setIfInBounds_toArray, List.set_cons_zero, List.set_cons_succ]
                refine wpAnyH_take (i := 17) (oi := ⟨some 57, _, _, _, _, _⟩) (v := ?_) rfl (by kernel_rfl) (by kernel_rfl) (by kernel_rfl) (fun _ _ _ h => h) (Or.inl ⟨by rfl, ?_⟩) (by assumption) ?_
                rotate_left
                · (intro w hSw; (try dsimp only at hSw); go_simp; try with_reducible rfl)
                try simp only [Act.put, List.setIfInBounds_toArray, List.set_cons_zero, List.set_cons_succ]
                refine wpAnyH_take (i := 18) (oi := ⟨some 58, _, _, _, _, _⟩) (v := ?_) rfl (by kernel_rfl) (by kernel_rfl) (by kernel_rfl) (fun _ _ _ h => h) (Or.inl ⟨by rfl, ?_⟩) (by assumption) ?_
                rotate_left
                · (intro w hSw; (try dsimp only at hSw); go_simp; try with_reducible rfl)
                try simp only [Act.put, List.setIfInBounds_toArray, List.set_cons_zero, List.set_cons_succ]
                refine wpAnyH_take (i := 19) (oi := ⟨some 59, _, _, _, _, _⟩) (v := ?_) rfl (by kernel_rfl) (by kernel_rfl) (by kernel_rfl) (fun _ _ _ h => h) (Or.inl ⟨by rfl, ?_⟩) (by assumption) ?_
                rotate_left
                · (intro w hSw; (try dsimp only at hSw); go_simp; try with_reducible rfl)
                try simp only [Act.put, List.setIfInBounds_toArray, List.set_cons_zero, List.set_cons_succ]
                refine wpAnyH_ready (rs := [14]) (by kernel_rfl) (by simp) ?_
                refine AllReadyH.cons (o := ⟨some 54, _, _, _, _, _⟩) rfl (fun K hK => ?_) AllReadyH.nil
                go_simp
                go_at_call 102; refine (l22Spent_ok _ _ xs (tB z) _ (HR.out.below hHeld.1.2) h32 HAM.out rz HRZ.out).mono ?_; rintro e w6 ⟨rfl, rfl⟩
                (try go_wp2_with fail)
                refine hK.out _ _ (hHeld) (fun hHeld => ?_)
                clear hK K
                try simp only [Act.put, List.setIfInBounds_toArray, List.set_cons_zero, List.set_cons_succ]
                refine wpAnyH_ready (rs := [20]) (by kernel_rfl) (by simp) ?_
                refine AllReadyH.cons (o := ⟨some 60, _, _, _, _, _⟩) rfl (fun K hK => ?_) AllReadyH.nil
                go_simp
                go_at_call 102; refine (l22Spent_ok _ _ xs (tB x) _ (HR.out.below hHeld.1.2) h32 HAM.out rx HRX.out).mono ?_; rintro e w6 ⟨rfl, rfl⟩
                (try go_wp2_with fail)
                refine hK.out _ _ (hHeld) (fun hHeld => ?_)
                clear hK K
                try simp only [Act.put, List.setIfInBounds_toArray, List.set_cons_zero, List.set_cons_succ]
                refine wpAnyH_take (i := 21) (oi := ⟨some 61, _, _, _, _, _⟩) (v := ?_) rfl (by kernel_rfl) (by kernel_rfl) (by kernel_rfl) (fun _ _ _ h => h) (Or.inl ⟨by rfl, ?_⟩) (by assumption) ?_
                rotate_left
                · (intro w hSw; (try dsimp only at hSw); go_simp; try with_reducible rfl)
                try simp only [Act.put, List.setIfInBounds_toArray, List.set_cons_zero, List.set_cons_succ]
                refine wpAnyH_take (i := 22) (oi := ⟨some 62, _, _, _, _, _⟩) (v := ?_) rfl (by kernel_rfl) (by kernel_rfl) (by kernel_rfl) (fun _ _ _ h => h) (Or.inl ⟨by rfl, ?_⟩) (by assumption) ?_
                rotate_left
                · (intro w hSw; (try dsimp only at hSw); go_simp; try with_reducible rfl)
                try simp only [Act.put, List.setIfInBounds_toArray, List.set_cons_zero, List.set_cons_succ]
                refine wpAnyH_take (i := 23) (oi := ⟨some 63, _, _, _, _, _⟩) (v := ?_) rfl (by kernel_rfl) (by kernel_rfl) (by kernel_rfl) (fun _ _ _ h => h) (Or.inl ⟨by rfl, ?_⟩) (by assumption) ?_
                rotate_left
                · (intro w hSw; (try dsimp only at hSw); go_simp; try with_reducible rfl)
                try simp only [Act.put, List.setIfInBounds_toArray, List.set_cons_zero, List.set_cons_succ]
                refine wpAnyH_done (by kernel_rfl) ?_ _
                obtain ⟨⟨-, hBw⟩, -⟩ := hHeld
                have B6 := hid (below_trans B5.out hBw)
                clear hBw a0 a1 a2
                go_wp2_with fail
                go_roundw
                case rel => exact ⟨i + 1, ⟨by go_num, by omega⟩, .inr ⟨b, rfl, HBN.out⟩, B6.out⟩
                case measure => simp [intOf]; omega
          · rcases hbest with ⟨rfl, hno⟩ | ⟨b, rfl, hbb⟩
            · have HBN := hid (hno.succ HU.out)
              clear hno
              go_wp2_with fail
              go_big_quiet (fail)
              go_wp2_with fail
              go_roundw
              case rel => exact ⟨i + 1, ⟨by go_num, by omega⟩, .inl ⟨rfl, HBN.out⟩, below_drewN' B5.out _⟩
              case measure => simp [intOf]; omega
            · have HBN := hid (hbb.keep (fun x' y' _ _ h3 => by rw [HU.out] at h3; cases h3))
              clear hbb
              go_wp2_with fail
              go_big_quiet (fail)
              go_wp2_with fail
              go_roundw
              case rel => exact ⟨i + 1, ⟨by go_num, by omega⟩, .inr ⟨b, rfl, HBN.out⟩, below_drewN' B5.out _⟩
              case measure => simp [intOf]; omega
        · obtain rfl : i = F.length := by omega
          have q9 : ¬ (F.length : Int) < (F.length : Int) := by omega
          rcases hbest with ⟨rfl, hno⟩ | ⟨b, rfl, hbb⟩
          · exfalso
            have h9 := hno.empty
            have h8 := HLN.out
            rw [h9, List.length_nil] at h8
            omega
          · have HBB := hid hbb
            obtain ⟨x, ⟨hx, hub⟩, hbi, -⟩ := hbb
            have p0 : (0 : Int) ≤ (b : Int) := by omega
            have p1 : (b : Int) < (F.length : Int) := by omega
            have a2 : wr.cell? ⟨g2, b, none⟩ = some (.string (tB x)) := by rw [HNM.out.cellAt b (by omega), List.getElem?_map, hx]; rfl
            have a0 : wr.cell? ⟨w2.heap.size, b, none⟩ = some (.bool false) := by rw [HUS.out.cellAt b (by omega), List.getElem?_map, hub]; rfl
            have f0 := HUS.out.frozenAt b
            have g9 : ¬ (g2 = w2.heap.size) := by have := L2.out.2; omega
            have g8 : ¬ (w2.heap.size = g2) := by have := L2.out.2; omega
            have HC7 := hid (show Chg w2.heap.size (w2.heap.size + 1) wr (wr.setCell ⟨w2.heap.size, b, none⟩ (.bool true)) from Chg.setCell (Chg.refl _ _ _) _ (Nat.le_refl _) (Nat.lt_succ_self _))
            have N7 := hid (own_besides HNM.out HC7.out (.inl L2.out.2) hlg)
            have U7 := hid (show (wr.setCell ⟨w2.heap.size, b, none⟩ (.bool true)).ownsRow w2.heap.size 4 1 (.slice (some ⟨w2.heap.size, 0, none⟩) F.length F.length) F.length ((us.set b true).map Value.bool) by have h9 := (HUS.out.stored b (.bool true)).1; rw [List.map_set]; exact h9)
            have V6 := own_below O6.out B5.out
            have V7 := hid (own_besides V6 HC7.out (.inr (by have := L4.out.1; have := L3.out.2; omega)) (V6.lt go rfl).2)
            have S7 := hid (show w3.heap.size ≤ (wr.setCell ⟨w2.heap.size, b, none⟩ (.bool true)).heap.size from Nat.le_trans HS4.out (Nat.le_trans B5.out.size HC7.out.size))
            have HXX := hid hx
            have HUB := hid hub
            have B7 := hid (B4.out.trans ((B5.out.mono B4.out.size).trans ((HC7.out.below (Nat.le_of_lt hlu)).mono B2.out.size)))
            clear hx hub V6
            go_wp2_with (at_builtin; go_loud (refine wpList_app (w0 := wr.setCell ⟨w2.heap.size, b, none⟩ (.bool true)) rfl (.tmp 68) (.tmp 73) 57 rfl w3.heap.size 9 (.string ⟨#[]⟩) 1 16 Try.underlying57 infoStr rfl (by decide) _ _ _ rfl V7.out #[.string (tB x)] 1 1 (by first | (simp [Act.eval]; done) | rfl) rfl (by simp [Value.oneCell']) (by omega) S7.out (Below.refl _ _) ?_); intro v1 w6 hown1 hbel1 hz1 _; obtain ⟨g6, c6, rfl, hf6⟩ := own_form hown1 (by omega); have X1 := hid hown1; have X2 := hid hbel1; have X3 := hid hz1; clear hown1 hbel1 hz1 hf6)
            go_roundw
            case rel => exact ⟨us.set b true, O ++ [x], g6, c6, by rw [List.length_append]; rfl, ⟨by rw [List.length_set]; exact HI.out.1, by rw [← HI.out.2, HBB.out.pick HXX.out]; simp⟩, by have h8 := HLN.out; rw [unU_set_length HXX.out HUB.out] at h8; rw [List.length_append, List.length_singleton]; omega, by rw [List.length_append, List.length_singleton]; omega, ⟨own_under N7.out X2.out (by have := L2.out.2; have := L3.out.2; omega), own_under U7.out X2.out L3.out.2, by rw [List.length_append, List.map_append]; exact X1.out⟩, B7.out.trans (X2.out.mono (by have := B2.out.size; have := B3.out.size; omega)), Nat.le_trans S7.out X2.out.size⟩
            case measure => simp [lenS]; omega
    · have HB9 := hid (B1.out.trans (B4.out.mono B1.out.size))
      have hsz9 : w.heap.size ≤ w3.heap.size := by have := B1.out.size; have := B2.out.size; have := B3.out.size; omega
      by_cases h1 : O.length < k
      · have e1 : (O.length : Int) < (k : Int) := by omega
        have e2 : ¬ (O.length : Int) < (F.length : Int) := by omega
        have HFF := hid (show fBst xs (k : Int) = (O, 0) by
          have h0 : unU F us = [] := List.eq_nil_of_length_eq_zero (by omega)
          have h2 : srtK (keyN xs) F = O := by rw [← HI.out.2, h0]; simp [srtK]
          rw [HF.out, h2, List.take_of_length_le (by omega)])
        clear hlen
        go_wp2_with fail
        go_ret2
        exact RetSC.own HFF.out (own_mono O6.out hsz9) HB9.out
      · have e1 : ¬ (O.length : Int) < (k : Int) := by omega
        have HFF := hid (show fBst xs (k : Int) = (O, 0) by
          rw [HF.out, ← HI.out.2, List.take_append_of_le_length (by omega), List.take_of_length_le (by omega)])
        clear hlen
        go_wp2_with fail
        go_ret2
        exact RetSC.own HFF.out (own_mono O6.out hsz9) HB9.out

end Go.Proofs.Ytjeklbhdngkngaa
