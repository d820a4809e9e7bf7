/- The reference's l19Put: a text put into an ascending list, once. -/
import Derived.Test.YtjeklbhdngkngaaStrs
import Derived.Test.YtjeklbhdngkngaaRowOps
import Derived.Sort.Walk0
namespace Go.Proofs.Ytjeklbhdngkngaa
open Go.RowKit
set_option linter.unusedVariables false

theorem less_iff (a b : ByteArray) : Op.bytesLess a.toList b.toList = decide (a.data.toList < b.data.toList) := by rw [bytesLess_eq, Lib.toList_data, Lib.toList_data]
theorem own_src' {w : World} {B : Nat} {e : TypeId} {k : Nat} {A : Option Addr} {n c : Nat} {xs : List Value} (h : w.ownsRow B e k (.slice A n c) n xs) : SrcAt w A xs := fun hne => by
  rcases h.2 with ⟨h1, h2⟩ | ⟨g, cap, cur, hv, r⟩
  · have := h.1
    rw [h2] at this
    exact absurd (List.eq_nil_of_length_eq_zero (by simpa using this)) hne
  · injection hv with hA
    subst hA
    exact ⟨_, rfl, h.cells (g := g) rfl⟩
theorem one_vS (ss : List Str) : ∀ u ∈ ss.map vS, u.oneCell' = true := fun u hu => by
  obtain ⟨s, _, rfl⟩ := List.mem_map.1 hu
  rfl
theorem own_cap {w : World} {B : Nat} {e : TypeId} {size g n c : Nat} {xs : List Value} (h : w.ownsRow B e size (.slice (some ⟨g, 0, none⟩) n c) n xs) : n ≤ c ∧ c ≤ maxLen ∧ B ≤ g ∧ g < w.heap.size := by
  rcases h.2 with ⟨h1, h2⟩ | ⟨g', cap, cur, hv, hb, hh, hc, hm, _⟩
  · cases h1
  · cases hv
    refine ⟨hc, hm, hb, ?_⟩
    rcases Nat.lt_or_ge g w.heap.size with h3 | h3
    · exact h3
    · rw [Array.getElem?_eq_none h3] at hh; cases hh
theorem up_get {ss : List Str} (h : Up ss) {i j : Nat} (hij : i < j) (hj : j < ss.length) : ss[i] < ss[j] := List.pairwise_iff_getElem.1 h i j (by omega) hj hij
/-- a place at which a text belongs -/
theorem put_at {ss : List Str} {x : Str} {k : Nat} (h : Up ss) (hk : k ≤ ss.length) (hr : ∀ j (hj : j < ss.length), k ≤ j → x < ss[j]) (hl : ∀ hk0 : 0 < k, ss[k - 1] < x) : putS ss x = ss.take k ++ x :: ss.drop k := by
  have e : ss = ss.take k ++ ss.drop k := (List.take_append_drop k ss).symm
  have h2 : Up (ss.take k ++ ss.drop k) := e ▸ h
  conv => lhs; rw [e]
  refine putS_at h2 (fun z hz => ?_) (fun z hz => ?_)
  · obtain ⟨i, hi, rfl⟩ := List.mem_iff_getElem.1 hz
    rw [List.getElem_take]
    have hik : i < k := by rw [List.length_take] at hi; omega
    rcases Nat.lt_or_ge i (k - 1) with h3 | h3
    · exact List.lt_trans (up_get h h3 (by omega)) (hl (by omega))
    · have : i = k - 1 := by omega
      subst this
      exact hl (by omega)
  · obtain ⟨i, hi, rfl⟩ := List.mem_iff_getElem.1 hz
    rw [List.getElem_drop]
    exact hr _ _ (by omega)

set_option maxHeartbeats 1600000 in
set_option maxRecDepth 100000 in
theorem l19Put_ok (g c : Nat) (ss : List Str) (x : ByteArray) (B : Nat) (w : World) (hown : w.ownsRow B 9 1 (.slice (some ⟨g, 0, none⟩) ss.length c) ss.length (ss.map vS)) (hup : Up ss) (hn : ss.length ≤ 1000) (hB : B ≤ w.heap.size) :
    Calls Try.prog 139 #[.slice (some ⟨g, 0, none⟩) ss.length c, .string x] w fun e w' => (∃ g' c', e = .returned (.slice (some ⟨g', 0, none⟩) (putS ss x.data.toList).length c') ∧ w'.ownsRow B 9 1 (.slice (some ⟨g', 0, none⟩) (putS ss x.data.toList).length c') (putS ss x.data.toList).length ((putS ss x.data.toList).map vS)) ∧ Below w.heap.size w w' := by
  obtain ⟨hlc, hcm, hBg, hg⟩ := own_cap hown
  have hc3 : c ≤ 9223372036854775807 := by unfold maxLen at hcm; omega
  have HO := hid hown
  have HU := hid hup
  have HS := hid (strs_own hown)
  have HW := hid (own_src' hown)
  have hlen : (ss.map vS).length = ss.length := List.length_map ..
  clear hown hup hcm hlen
  go_enter Try.func139, Try.ntmps139
  go_wp2_with fail
  go_loop [5] (fun i => ∃ k : Nat, k ≤ ss.length ∧ i = .int .i64 k ∧ ∀ j (hj : j < ss.length), k ≤ j → x.data.toList < ss[j]) (fun i => (intOf i).toNat)
  case atStart => exact ⟨ss.length, Nat.le_refl _, rfl, fun j hj h => absurd h (by omega)⟩
  case round =>
    obtain ⟨k, hk, rfl, hall⟩ := hrel
    have HR := hid hall
    clear hall
    have q0 : (0 : Int) ≤ (k : Int) := by omega
    have q1 : (k : Int) ≤ ss.length := by omega
    have q2 : (k : Int) ≤ c := by omega
    rcases Nat.lt_or_ge k 1 with hk0 | hk0
    · have e0 : decide (0 < k) = false := by simp; omega
      have HP := hid (put_at HU.out hk HR.out (fun h => absurd h (by omega)))
      by_cases hcap : c = k
      · subst hcap
        have hlk := hid (show ss.length = c by omega)
        have HD := hid (show (ss.drop c).map vS = [] by rw [List.drop_of_length_le (by omega)]; rfl)
        go_wp2_with (first | (at_builtin; refine wpList_app_src (w0 := w) rfl (.tmp 43) (.tmp 46) 57 rfl w.heap.size 9 (.string ⟨#[]⟩) 1 16 Try.underlying57 infoStr rfl (by decide) _ (c + 1) _ rfl O2.out (some ⟨g, 0, none⟩) (0) (0) ((ss.drop c).map vS) rfl (by rw [HD.out]; rfl) (fun h => by cases h) (by rw [HD.out]; exact SrcAt.nil _ _) (one_vS _) (by omega) B2.out.size B2.out ?_; intro v3 w3 hown3 hb3 hz3; have O3 := hid hown3; have B3 := hid hb3; clear hown3 hb3) | (at_builtin; refine wpList_app (w0 := w) rfl (.tmp 39) (.tmp 41) 57 rfl w.heap.size 9 (.string ⟨#[]⟩) 1 16 Try.underlying57 infoStr rfl (by decide) _ _ _ rfl O1.out #[.string x] 1 1 rfl rfl (by simp [Value.oneCell']) (by omega) B1.out.size B1.out ?_; intro v2 w2 hown2 hb2 hz2 _; have O2 := hid hown2; have B2 := hid hb2; have W2 := hid (HW.out.below B2.out hg); clear hown2 hb2) | (at_builtin; refine wpList_app_src (w0 := w) rfl (.tmp 34) (.tmp 37) 57 rfl w.heap.size 9 (.string ⟨#[]⟩) 1 16 Try.underlying57 infoStr rfl (by decide) _ 0 [] rfl (World.ownsRow_lit _ _ 0 (Nat.le_refl _) (by unfold maxLen; omega) rfl) (some ⟨g, 0, none⟩) c c ((ss.take c).map vS) rfl (by rw [List.length_map, List.length_take]; omega) (fun h => by cases h) (by rw [List.map_take]; exact (HW.out.below (below_alloc _ _) hg).take c) (one_vS _) (by omega) (below_alloc _ _).size (below_alloc _ _) ?_; intro v1 w1 hown1 hb1 hz1; simp only [Nat.zero_add, List.nil_append] at hown1; have O1 := hid hown1; have B1 := hid hb1; clear hown1 hb1))
        go_ret
        obtain ⟨g3, c3, hv3, _⟩ := own_form O3.out (by omega)
        subst hv3
        have hl3 : c + 1 + (0) = (putS ss x.data.toList).length := by rw [HP.out, List.length_append, List.length_cons, List.length_take, List.length_drop]; have := hlk.out; omega
        refine ⟨⟨g3, c3, by rw [← hl3]; first | done | rfl, ?_⟩, B3.out⟩
        have h := own_mono O3.out hB
        rw [hl3, List.append_assoc] at h
        have e : (ss.take c).map vS ++ ([Value.string x] ++ (ss.drop c).map vS) = (putS ss x.data.toList).map vS := by rw [HP.out, List.map_append, List.map_cons, vS_data]; rfl
        rw [← e]
        exact h
      · have hnc : ¬ (k = c) := fun h => hcap h.symm
        go_wp2_with (first | (at_builtin; refine wpList_app_src (w0 := w) rfl (.tmp 43) (.tmp 46) 57 rfl w.heap.size 9 (.string ⟨#[]⟩) 1 16 Try.underlying57 infoStr rfl (by decide) _ (k + 1) _ rfl O2.out (some ⟨g, k, none⟩) (ss.length - k) (c - k) ((ss.drop k).map vS) rfl (by rw [List.length_map, List.length_drop]; omega) (fun h => by cases h) (by rw [List.map_drop]; have h := W2.out.drop k; rw [Nat.zero_add] at h; exact h) (one_vS _) (by omega) B2.out.size B2.out ?_; intro v3 w3 hown3 hb3 hz3; have O3 := hid hown3; have B3 := hid hb3; clear hown3 hb3) | (at_builtin; refine wpList_app (w0 := w) rfl (.tmp 39) (.tmp 41) 57 rfl w.heap.size 9 (.string ⟨#[]⟩) 1 16 Try.underlying57 infoStr rfl (by decide) _ _ _ rfl O1.out #[.string x] 1 1 rfl rfl (by simp [Value.oneCell']) (by omega) B1.out.size B1.out ?_; intro v2 w2 hown2 hb2 hz2 _; have O2 := hid hown2; have B2 := hid hb2; have W2 := hid (HW.out.below B2.out hg); clear hown2 hb2) | (at_builtin; refine wpList_app_src (w0 := w) rfl (.tmp 34) (.tmp 37) 57 rfl w.heap.size 9 (.string ⟨#[]⟩) 1 16 Try.underlying57 infoStr rfl (by decide) _ 0 [] rfl (World.ownsRow_lit _ _ 0 (Nat.le_refl _) (by unfold maxLen; omega) rfl) (some ⟨g, 0, none⟩) k c ((ss.take k).map vS) rfl (by rw [List.length_map, List.length_take]; omega) (fun h => by cases h) (by rw [List.map_take]; exact (HW.out.below (below_alloc _ _) hg).take k) (one_vS _) (by omega) (below_alloc _ _).size (below_alloc _ _) ?_; intro v1 w1 hown1 hb1 hz1; simp only [Nat.zero_add, List.nil_append] at hown1; have O1 := hid hown1; have B1 := hid hb1; clear hown1 hb1))
        go_ret
        obtain ⟨g3, c3, hv3, _⟩ := own_form O3.out (by omega)
        subst hv3
        have hl3 : k + 1 + (ss.length - k) = (putS ss x.data.toList).length := by rw [HP.out, List.length_append, List.length_cons, List.length_take, List.length_drop]; omega
        refine ⟨⟨g3, c3, by rw [← hl3]; first | done | rfl, ?_⟩, B3.out⟩
        have h := own_mono O3.out hB
        rw [hl3, List.append_assoc] at h
        have e : (ss.take k).map vS ++ ([Value.string x] ++ (ss.drop k).map vS) = (putS ss x.data.toList).map vS := by rw [HP.out, List.map_append, List.map_cons, vS_data]; rfl
        rw [← e]
        exact h
    · have e0 : decide (0 < k) = true := by simp; omega
      have hkl : k - 1 < ss.length := by omega
      obtain ⟨b, o, hA1, hlt, hc⟩ := HS.out (by intro e; rw [e] at hkl; exact absurd hkl (by simp))
      injection hA1 with hA1
      injection hA1 with hA1 ho1
      subst hA1 ho1
      have k0 : w.cell? ⟨g, k - 1, none⟩ = some (.string (tB ss[k - 1])) := by
        have h := hc (k - 1) _ (List.getElem?_eq_getElem hkl)
        rw [Nat.zero_add] at h
        exact h
      have e2 : IntKind.i64.wrap ((k : Int) - 1) = (k : Int) - 1 := IntWalk.i64_in _ (by omega)
      have e3 : (0 : Int) ≤ (k : Int) - 1 := by omega
      have e4 : ((k : Int) - 1).toNat = k - 1 := by omega
      have e5 : (k : Int) - 1 < ss.length := by omega
      have e6 : (1 : Int) ≤ (k : Int) := by omega
      clear hc
      by_cases l1 : ss[k - 1] < x.data.toList
      · have d1 : Op.bytesLess (tB ss[k - 1]).toList x.toList = true := by rw [less_iff]; exact decide_eq_true l1
        have d2 : ((tB ss[k - 1]).toList == x.toList) = false := by
          rw [beq_eq_false_iff_ne, toList_tB, Lib.toList_data]
          intro e
          rw [e] at l1
          exact List.lt_irrefl _ l1
        have HP := hid (put_at HU.out hk HR.out (fun _ => l1))
        clear l1
        by_cases hcap : c = k
        · subst hcap
          have hlk := hid (show ss.length = c by omega)
          have HD := hid (show (ss.drop c).map vS = [] by rw [List.drop_of_length_le (by omega)]; rfl)
          go_wp2_with (first | (at_builtin; refine wpList_app_src (w0 := w) rfl (.tmp 43) (.tmp 46) 57 rfl w.heap.size 9 (.string ⟨#[]⟩) 1 16 Try.underlying57 infoStr rfl (by decide) _ (c + 1) _ rfl O2.out (some ⟨g, 0, none⟩) (0) (0) ((ss.drop c).map vS) rfl (by rw [HD.out]; rfl) (fun h => by cases h) (by rw [HD.out]; exact SrcAt.nil _ _) (one_vS _) (by omega) B2.out.size B2.out ?_; intro v3 w3 hown3 hb3 hz3; have O3 := hid hown3; have B3 := hid hb3; clear hown3 hb3) | (at_builtin; refine wpList_app (w0 := w) rfl (.tmp 39) (.tmp 41) 57 rfl w.heap.size 9 (.string ⟨#[]⟩) 1 16 Try.underlying57 infoStr rfl (by decide) _ _ _ rfl O1.out #[.string x] 1 1 rfl rfl (by simp [Value.oneCell']) (by omega) B1.out.size B1.out ?_; intro v2 w2 hown2 hb2 hz2 _; have O2 := hid hown2; have B2 := hid hb2; have W2 := hid (HW.out.below B2.out hg); clear hown2 hb2) | (at_builtin; refine wpList_app_src (w0 := w) rfl (.tmp 34) (.tmp 37) 57 rfl w.heap.size 9 (.string ⟨#[]⟩) 1 16 Try.underlying57 infoStr rfl (by decide) _ 0 [] rfl (World.ownsRow_lit _ _ 0 (Nat.le_refl _) (by unfold maxLen; omega) rfl) (some ⟨g, 0, none⟩) c c ((ss.take c).map vS) rfl (by rw [List.length_map, List.length_take]; omega) (fun h => by cases h) (by rw [List.map_take]; exact (HW.out.below (below_alloc _ _) hg).take c) (one_vS _) (by omega) (below_alloc _ _).size (below_alloc _ _) ?_; intro v1 w1 hown1 hb1 hz1; simp only [Nat.zero_add, List.nil_append] at hown1; have O1 := hid hown1; have B1 := hid hb1; clear hown1 hb1))
          go_ret
          obtain ⟨g3, c3, hv3, _⟩ := own_form O3.out (by omega)
          subst hv3
          have hl3 : c + 1 + (0) = (putS ss x.data.toList).length := by rw [HP.out, List.length_append, List.length_cons, List.length_take, List.length_drop]; have := hlk.out; omega
          refine ⟨⟨g3, c3, by rw [← hl3]; first | done | rfl, ?_⟩, B3.out⟩
          have h := own_mono O3.out hB
          rw [hl3, List.append_assoc] at h
          have e : (ss.take c).map vS ++ ([Value.string x] ++ (ss.drop c).map vS) = (putS ss x.data.toList).map vS := by rw [HP.out, List.map_append, List.map_cons, vS_data]; rfl
          rw [← e]
          exact h
        · have hnc : ¬ (k = c) := fun h => hcap h.symm
          go_wp2_with (first | (at_builtin; refine wpList_app_src (w0 := w) rfl (.tmp 43) (.tmp 46) 57 rfl w.heap.size 9 (.string ⟨#[]⟩) 1 16 Try.underlying57 infoStr rfl (by decide) _ (k + 1) _ rfl O2.out (some ⟨g, k, none⟩) (ss.length - k) (c - k) ((ss.drop k).map vS) rfl (by rw [List.length_map, List.length_drop]; omega) (fun h => by cases h) (by rw [List.map_drop]; have h := W2.out.drop k; rw [Nat.zero_add] at h; exact h) (one_vS _) (by omega) B2.out.size B2.out ?_; intro v3 w3 hown3 hb3 hz3; have O3 := hid hown3; have B3 := hid hb3; clear hown3 hb3) | (at_builtin; refine wpList_app (w0 := w) rfl (.tmp 39) (.tmp 41) 57 rfl w.heap.size 9 (.string ⟨#[]⟩) 1 16 Try.underlying57 infoStr rfl (by decide) _ _ _ rfl O1.out #[.string x] 1 1 rfl rfl (by simp [Value.oneCell']) (by omega) B1.out.size B1.out ?_; intro v2 w2 hown2 hb2 hz2 _; have O2 := hid hown2; have B2 := hid hb2; have W2 := hid (HW.out.below B2.out hg); clear hown2 hb2) | (at_builtin; refine wpList_app_src (w0 := w) rfl (.tmp 34) (.tmp 37) 57 rfl w.heap.size 9 (.string ⟨#[]⟩) 1 16 Try.underlying57 infoStr rfl (by decide) _ 0 [] rfl (World.ownsRow_lit _ _ 0 (Nat.le_refl _) (by unfold maxLen; omega) rfl) (some ⟨g, 0, none⟩) k c ((ss.take k).map vS) rfl (by rw [List.length_map, List.length_take]; omega) (fun h => by cases h) (by rw [List.map_take]; exact (HW.out.below (below_alloc _ _) hg).take k) (one_vS _) (by omega) (below_alloc _ _).size (below_alloc _ _) ?_; intro v1 w1 hown1 hb1 hz1; simp only [Nat.zero_add, List.nil_append] at hown1; have O1 := hid hown1; have B1 := hid hb1; clear hown1 hb1))
          go_ret
          obtain ⟨g3, c3, hv3, _⟩ := own_form O3.out (by omega)
          subst hv3
          have hl3 : k + 1 + (ss.length - k) = (putS ss x.data.toList).length := by rw [HP.out, List.length_append, List.length_cons, List.length_take, List.length_drop]; omega
          refine ⟨⟨g3, c3, by rw [← hl3]; first | done | rfl, ?_⟩, B3.out⟩
          have h := own_mono O3.out hB
          rw [hl3, List.append_assoc] at h
          have e : (ss.take k).map vS ++ ([Value.string x] ++ (ss.drop k).map vS) = (putS ss x.data.toList).map vS := by rw [HP.out, List.map_append, List.map_cons, vS_data]; rfl
          rw [← e]
          exact h
      · by_cases l2 : ss[k - 1] = x.data.toList
        · have d1 : Op.bytesLess (tB ss[k - 1]).toList x.toList = false := by rw [less_iff]; exact decide_eq_false l1
          have d2 : ((tB ss[k - 1]).toList == x.toList) = true := by rw [beq_iff_eq, toList_tB, Lib.toList_data]; exact l2
          have HP := hid (putS_has HU.out (show x.data.toList ∈ ss by rw [← l2]; exact List.getElem_mem hkl))
          clear l1 l2
          go_wp2_with fail
          go_ret
          exact ⟨⟨g, c, by rw [HP.out]; first | done | rfl, by rw [HP.out]; exact HO.out⟩, Below.refl _ _⟩
        · have hlt2 : x.data.toList < ss[k - 1] := (str_lt_or_eq (List.not_lt.1 l1)).resolve_right fun e => l2 e.symm
          have d1 : Op.bytesLess (tB ss[k - 1]).toList x.toList = false := by rw [less_iff]; exact decide_eq_false l1
          have d2 : ((tB ss[k - 1]).toList == x.toList) = false := by
            rw [beq_eq_false_iff_ne, toList_tB, Lib.toList_data]
            exact l2
          have HR2 := hid (show ∀ j (hj : j < ss.length), k - 1 ≤ j → x.data.toList < ss[j] from fun j hj h => by
            rcases Nat.lt_or_ge j k with h3 | h3
            · have : j = k - 1 := by omega
              subst this
              exact hlt2
            · exact HR.out j hj h3)
          clear l1 l2 hlt2
          go_wp2_with fail
          go_round
          case rel => exact ⟨k - 1, by omega, by go_num, HR2.out⟩
          case measure => simp [intOf]; omega

end Go.Proofs.Ytjeklbhdngkngaa
