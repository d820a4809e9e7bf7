/- MissedCustomers: the reference. -/
import Derived.Test.YtfagfohcbdlaeaaMiss
namespace Go.Proofs.Ytfagfohcbdlaeaa
open Go.RowKit
set_option linter.unusedVariables false

noncomputable def missTo (xs : List DVisit) (d gp : Int) (F : List Str) (k : Nat) : List Str := (F.take k).filter (fun s => !missP xs d gp s)
theorem missTo_yes {xs : List DVisit} {d gp : Int} {F : List Str} {k : Nat} (h : k < F.length) (h1 : missP xs d gp F[k] = false) : missTo xs d gp F (k + 1) = missTo xs d gp F k ++ [F[k]] := by
  unfold missTo
  rw [List.take_succ_eq_append_getElem h, List.filter_append]
  simp [h1]
theorem missTo_no {xs : List DVisit} {d gp : Int} {F : List Str} {k : Nat} (h : k < F.length) (h1 : missP xs d gp F[k] = true) : missTo xs d gp F (k + 1) = missTo xs d gp F k := by
  unfold missTo
  rw [List.take_succ_eq_append_getElem h, List.filter_append]
  simp [h1]
theorem missTo_len (xs : List DVisit) (d gp : Int) (F : List Str) (k : Nat) : (missTo xs d gp F k).length ≤ F.length := by
  have h1 := List.length_filter_le (fun s => !missP xs d gp s) (F.take k)
  have h2 := List.length_take_le k F
  have h3 : (F.take k).length ≤ F.length := by rw [List.length_take]; omega
  unfold missTo
  omega

set_option maxHeartbeats 1600000 in
set_option maxRecDepth 100000 in
theorem specMiss_ok (g : Nat) (xs : List DVisit) (d gp : Int) (w : World) (hA : RowsAt w 4 (some ⟨g, 0, none⟩) (xs.map DVisit.cells)) (hok : ∀ x ∈ xs, x.ok) (hn : xs.length ≤ 1048576) :
    Calls Try.prog 43 #[.slice (some ⟨g, 0, none⟩) xs.length xs.length, .int .i64 d, .int .i64 gp] w (RetSC w (fMiss xs d gp)) := by
  have HA := hid hA
  have HK := hid hok
  clear hA hok
  cases c1 : visitsB xs
  · have HF := hid (show fMiss xs d gp = ([], 1) by unfold fMiss; rw [if_pos c1])
    go_enter Try.func43, Try.ntmps43
    go_wp2_with (go_at_call 82; refine (l22Ok_ok _ _ xs _ HA.out HK.out hn).mono ?_; rintro e w1 ⟨rfl, hb⟩; have B1 := hid hb; clear hb)
    go_ret2
    exact RetSC.nil HF.out B1.out
  cases c2 : inB d 0 100000
  · have HF := hid (show fMiss xs d gp = ([], 2) by unfold fMiss; rw [if_neg (by rw [c1]; exact fun h => by cases h), if_pos (by rw [c2]; rfl)])
    go_enter Try.func43, Try.ntmps43
    go_wp2_with (first | (go_at_call 99; refine (l21Day_ok _ _).mono ?_; rintro e w' ⟨rfl, rfl⟩) | (go_at_call 82; refine (l22Ok_ok _ _ xs _ HA.out HK.out hn).mono ?_; rintro e w1 ⟨rfl, hb⟩; have B1 := hid hb; clear hb))
    go_ret2
    exact RetSC.nil HF.out B1.out
  cases c3 : inB gp 0 100000
  · have HF := hid (show fMiss xs d gp = ([], 2) by unfold fMiss; rw [if_neg (by rw [c1]; exact fun h => by cases h), if_pos (by rw [c2, c3]; rfl)])
    go_enter Try.func43, Try.ntmps43
    go_wp2_with (first | (go_at_call 99; refine (l21Day_ok _ _).mono ?_; rintro e w' ⟨rfl, rfl⟩) | (go_at_call 82; refine (l22Ok_ok _ _ xs _ HA.out HK.out hn).mono ?_; rintro e w1 ⟨rfl, hb⟩; have B1 := hid hb; clear hb))
    go_ret2
    exact RetSC.nil HF.out B1.out
  have HF := hid (show fMiss xs d gp = ((setOf (namesN (custN xs) xs.length)).filter (fun s => !missP xs d gp s), 0) by unfold fMiss; rw [if_neg (by rw [c1]; exact fun h => by cases h), if_neg (by rw [c2, c3]; exact fun h => by cases h)])
  have h32 := (visitsB_iff.1 c1).2
  have hd := inB_iff.1 c2
  have hg := inB_iff.1 c3
  obtain ⟨hd0, hd1⟩ := hd
  obtain ⟨hg0, hg1⟩ := hg
  have HV := hid c1
  have hsl := setOf_len (namesN (custN xs) xs.length)
  have hnl := namesN_len (custN_len xs) xs.length
  have HSL : (setOf (namesN (custN xs) xs.length)).length ≤ 64 := by omega
  obtain ⟨F, hF⟩ : ∃ F, F = setOf (namesN (custN xs) xs.length) := ⟨_, rfl⟩
  rw [← hF] at HF HSL
  have HFF := hid hF
  clear hsl hnl hF
  go_enter Try.func43, Try.ntmps43
  go_wp2_with (first
    | (go_at_call 99; refine (l21Day_ok _ _).mono ?_; rintro e w' ⟨rfl, rfl⟩)
    | (go_at_call 83; refine (l22Customers_ok _ _ xs _ (HA.out.below B1.out) (by omega)).mono ?_; rintro e w2 ⟨⟨gc, cc, rfl, hoc⟩, hbc⟩; rw [← HFF.out] at hoc; rw [← HFF.out]; have OC := hid hoc; have SN := hid (strs_own hoc); have BC := hid hbc; clear hoc hbc)
    | (go_at_call 82; refine (l22Ok_ok _ _ xs _ HA.out HK.out hn).mono ?_; rintro e w1 ⟨rfl, hb⟩; have B1 := hid hb; clear hb))
  rename World => w2
  go_loopw [9, 10] (fun v m wr => ∃ (k : Nat) (Ac : Option Addr) (c3 : Nat), k ≤ F.length ∧ m = .int .i64 k ∧ v = .slice Ac (missTo xs d gp F k).length c3 ∧ wr.ownsRow w2.heap.size 9 1 (.slice Ac (missTo xs d gp F k).length c3) (missTo xs d gp F k).length ((missTo xs d gp F k).map vS) ∧ Below w2.heap.size w2 wr) (fun _ m _ => F.length - (intOf m).toNat)
  case atStart => exact ⟨0, _, _, Nat.zero_le _, rfl, rfl, World.ownsRow_lit _ _ 0 (Nat.le_refl _) (by unfold maxLen; omega) rfl, below_alloc _ _⟩
  case round =>
    obtain ⟨k, Ac, c3, hk, rfl, rfl, hown, hbel⟩ := hrel
    have HO := hid hown
    have HB := hid hbel
    have hml := missTo_len xs d gp F k
    clear hown hbel
    by_cases hkl : k < F.length
    · obtain ⟨nb, no, hA1, nlt, nc⟩ := SN.out (by intro e; rw [e] at hkl; exact absurd hkl (by simp))
      injection hA1 with hA1
      injection hA1 with hA1 ho1
      subst hA1 ho1
      have z1 : wr.cell? ⟨gc, k, none⟩ = some (.string (tB F[k])) := by
        have h := (HB.out.cell (p := ⟨gc, 0 + k, none⟩) nlt).trans (nc k _ (List.getElem?_eq_getElem hkl))
        rw [Nat.zero_add] at h
        exact h
      have q0 : (0 : Int) ≤ (k : Int) := by omega
      have q1 : (k : Int) < F.length := by omega
      have HLE := hid (last_eq (vis_some (xs := xs) (who := F[k]) (by rw [← HFF.out]; exact List.getElem_mem hkl)))
      have bl := lastI_bd (visitsB_iff.1 HV.out).1 (tB F[k])
      obtain ⟨L, hL⟩ : ∃ L, L = lastI xs (tB F[k]) := ⟨_, rfl⟩
      rw [← hL] at bl HLE
      obtain ⟨bl0, bl1⟩ := bl
      have w1' : IntKind.i64.wrap (d - L) = d - L := IntWalk.i64_in _ (by omega)
      clear nc
      by_cases hgt : d - L ≤ gp
      · have e1 : ¬ (gp < d - L) := by omega
        have HE := hid (missTo_no hkl (show missP xs d gp F[k] = true by unfold missP; rw [← hL]; exact decide_eq_true hgt))
        clear hL
        go_wp2_with (go_at_call 100; refine (l22Last_ok _ _ xs (tB F[k]) _ ((HA.out.below B1.out).below (below_trans BC.out HB.out)) hn).mono ?_; rintro e w' ⟨rfl, rfl⟩; rw [HLE.out])
        go_roundw
        case rel => exact ⟨k + 1, Ac, c3, by omega, by go_num, by rw [HE.out], by rw [HE.out]; exact HO.out, HB.out⟩
        case measure => simp [intOf]; omega
      · have e1 : gp < d - L := by omega
        have HE := hid (missTo_yes hkl (show missP xs d gp F[k] = false by unfold missP; rw [← hL]; exact decide_eq_false hgt))
        clear hL
        go_wp2_with (first
          | (at_builtin; refine wpList_app (w0 := w2) rfl (.tmp 41) (.tmp 46) 24 rfl w2.heap.size 9 (.string ⟨#[]⟩) 1 16 Try.underlying24 infoStr rfl (by decide) _ _ _ rfl HO.out #[.string (tB F[k])] 1 1 rfl rfl (by simp [Value.oneCell']) (by omega) HB.out.size HB.out ?_; intro v1 w6 hown1 hbel1 hz1 _; obtain ⟨g6, c6, rfl, hf6⟩ := own_form hown1 (by omega))
          | (go_at_call 100; refine (l22Last_ok _ _ xs (tB F[k]) _ ((HA.out.below B1.out).below (below_trans BC.out HB.out)) hn).mono ?_; rintro e w' ⟨rfl, rfl⟩; rw [HLE.out]))
        go_roundw
        case rel => exact ⟨k + 1, some ⟨g6, 0, none⟩, c6, by omega, by go_num, by rw [HE.out, List.length_append]; rfl, by rw [HE.out, List.length_append, List.map_append]; exact hown1, hbel1⟩
        case measure => simp [intOf]; omega
    · have hk2 : k = F.length := by omega
      subst hk2
      have HE := hid (show missTo xs d gp F F.length = F.filter (fun s => !missP xs d gp s) by unfold missTo; rw [List.take_of_length_le (Nat.le_refl _)])
      go_wp2_with fail
      go_ret2
      rw [← HE.out] at HF
      exact RetSC.own HF.out (own_mono HO.out (by have := B1.out.size; have := BC.out.size; omega)) (B1.out.trans ((BC.out.trans (HB.out.mono BC.out.size)).mono B1.out.size))

end Go.Proofs.Ytfagfohcbdlaeaa
