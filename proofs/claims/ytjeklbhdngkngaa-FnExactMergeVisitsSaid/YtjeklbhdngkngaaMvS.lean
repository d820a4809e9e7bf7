/- Merged visits: the walk of the reference. -/
import Derived.Test.YtjeklbhdngkngaaMv
namespace Go.Proofs.Ytjeklbhdngkngaa
open Go.RowKit
set_option linter.unusedVariables false

theorem mergeK_left {xs ys : List DVisit} {i k : Nat} (hi : i < xs.length) (h : k = ys.length ∨ ∃ hk : k < ys.length, xs[i].fDay ≤ ys[k].fDay) : mergeK DVisit.fDay (xs.drop i) (ys.drop k) = xs[i] :: mergeK DVisit.fDay (xs.drop (i + 1)) (ys.drop k) := by
  rw [List.drop_eq_getElem_cons hi]
  rcases h with rfl | ⟨hk, h⟩
  · rw [List.drop_length, mergeK_nil, mergeK_nil]
  · rw [List.drop_eq_getElem_cons hk, mergeK, if_pos h]
theorem mergeK_right {xs ys : List DVisit} {i k : Nat} (hk : k < ys.length) (h : i = xs.length ∨ ∃ hi : i < xs.length, ¬ xs[i].fDay ≤ ys[k].fDay) : mergeK DVisit.fDay (xs.drop i) (ys.drop k) = ys[k] :: mergeK DVisit.fDay (xs.drop i) (ys.drop (k + 1)) := by
  rw [List.drop_eq_getElem_cons hk]
  rcases h with rfl | ⟨hi, h⟩
  · rw [List.drop_length, mergeK, mergeK]
  · rw [List.drop_eq_getElem_cons hi, mergeK, if_neg h]
set_option maxHeartbeats 1600000 in
set_option maxRecDepth 100000 in
theorem specMv_ok (g0 : Nat) (xs : List DVisit) (g1 : Nat) (ys : List DVisit) (w : World) (hA0 : RowsAt w 4 (some ⟨g0, 0, none⟩) (xs.map DVisit.cells)) (hk0 : ∀ x ∈ xs, x.ok) (hn0 : xs.length ≤ 1048576) (hA1 : RowsAt w 4 (some ⟨g1, 0, none⟩) (ys.map DVisit.cells)) (hk1 : ∀ x ∈ ys, x.ok) (hn1 : ys.length ≤ 1048576) :
    Calls Try.prog 31 #[.slice (some ⟨g0, 0, none⟩) xs.length xs.length, .slice (some ⟨g1, 0, none⟩) ys.length ys.length] w (RetVisitC w (fMv xs ys)) := by
  have HA0 := hid hA0
  have HA1 := hid hA1
  have HK0 := hid hk0
  have HK1 := hid hk1
  clear hA0 hA1 hk0 hk1
  cases c0 : visitsB xs
  · have HF := hid (show fMv xs ys = ([], 1) by unfold fMv; rw [c0]; rfl)
    go_enter Try.func31, Try.ntmps31
    go_wp2_with fail
    refine (l22Ok_ok _ _ xs _ HA0.out HK0.out hn0).mono ?_
    rintro e w1 ⟨rfl, hb⟩
    have B1 := hid hb
    clear hb
    go_wp2_with fail
    go_ret2
    exact RetVisitC.nil HF.out B1.out
  cases c1 : visitsB ys
  · have HF := hid (show fMv xs ys = ([], 1) by unfold fMv; rw [c0, c1]; rfl)
    go_enter Try.func31, Try.ntmps31
    go_wp2_with fail
    refine (l22Ok_ok _ _ xs _ HA0.out HK0.out hn0).mono ?_
    rintro e w1 ⟨rfl, hb⟩
    have B1 := hid hb
    clear hb
    go_wp2_with fail
    refine (l22Ok_ok _ _ ys _ (HA1.out.below B1.out) HK1.out hn1).mono ?_
    rintro e w2 ⟨rfl, hb⟩
    have B2 := hid (below_trans B1.out hb)
    clear hb
    go_wp2_with fail
    go_ret2
    exact RetVisitC.nil HF.out B2.out
  have hv0 := visitsB_iff.1 c0
  have hv1 := visitsB_iff.1 c1
  have l0 := hv0.2
  have l1 := hv1.2
  have HV0 := hid hv0.1
  have HV1 := hid hv1.1
  have HC := hid (And.intro c0 c1)
  clear hv0 hv1
  by_cases h32 : 32 < xs.length + ys.length
  · have HF := hid (show fMv xs ys = ([], 5) by unfold fMv; rw [HC.out.1, HC.out.2, if_neg (by simp), if_pos h32])
    have e9 : decide ((xs.length : Int) + (ys.length : Int) ≤ 32) = false := decide_eq_false (by omega)
    have e10 : (32 : Int) < (xs.length : Int) + (ys.length : Int) := by omega
    have e11 : decide ((32 : Int) < (xs.length : Int) + (ys.length : Int)) = true := decide_eq_true e10
    go_enter Try.func31, Try.ntmps31
    go_wp2_with fail
    refine (l22Ok_ok _ _ xs _ HA0.out HK0.out hn0).mono ?_
    rintro e w1 ⟨rfl, hb⟩
    have B1 := hid hb
    clear hb
    go_wp2_with fail
    refine (l22Ok_ok _ _ ys _ (HA1.out.below B1.out) HK1.out hn1).mono ?_
    rintro e w2 ⟨rfl, hb⟩
    have B2 := hid (below_trans B1.out hb)
    clear hb
    go_wp2_with fail
    go_ret2
    exact RetVisitC.nil HF.out B2.out
  · have HF := hid (show fMv xs ys = (mergeK DVisit.fDay xs ys, 0) by unfold fMv; rw [HC.out.1, HC.out.2, if_neg (by simp), if_neg h32])
    have e9 : decide ((xs.length : Int) + (ys.length : Int) ≤ 32) = true := decide_eq_true (by omega)
    have e10 : ¬ (32 : Int) < (xs.length : Int) + (ys.length : Int) := by omega
    have e11 : decide ((32 : Int) < (xs.length : Int) + (ys.length : Int)) = false := decide_eq_false e10
    clear e9
    go_enter Try.func31, Try.ntmps31
    go_wp2_with fail
    refine (l22Ok_ok _ _ xs _ HA0.out HK0.out hn0).mono ?_
    rintro e w1 ⟨rfl, hb⟩
    have B1 := hid hb
    clear hb
    go_wp2_with fail
    refine (l22Ok_ok _ _ ys _ (HA1.out.below B1.out) HK1.out hn1).mono ?_
    rintro e w2 ⟨rfl, hb⟩
    have B2 := hid (below_trans B1.out hb)
    clear hb
    go_wp2_with fail
    go_loopw [6, 7, 8] (fun v vi vk wr => ∃ (i k : Nat) (Z : List DVisit), (vi = .int .i64 (i : Int) ∧ vk = .int .i64 (k : Int)) ∧ (i ≤ xs.length ∧ k ≤ ys.length) ∧ Hid (Z.length = i + k ∧ Z ++ mergeK DVisit.fDay (xs.drop i) (ys.drop k) = mergeK DVisit.fDay xs ys) ∧ wr.ownsRow w.heap.size 76 4 v (i + k) (Z.map DVisit.cells).flatten ∧ Below w.heap.size w wr) (fun _ vi vk _ => (xs.length - (intOf vi).toNat) + (ys.length - (intOf vk).toNat))
    case atStart => exact ⟨0, 0, [], ⟨rfl, rfl⟩, ⟨Nat.zero_le _, Nat.zero_le _⟩, ⟨rfl, rfl⟩, World.ownsRow_lit _ _ 0 B2.out.size (by unfold maxLen; omega) rfl, (by first | exact B2.out.alloc B2.out.size _ | exact (B2.out.alloc (by have := B2.out.size; omega) _))⟩
    case round =>
      obtain ⟨i, k, Z, ⟨rfl, rfl⟩, ⟨hi, hk⟩, HZ, hown, hbel⟩ := hrel
      clear B1 B2
      have O2 := hid hown
      have B2 := hid hbel
      have HX := hid (HA0.out.up hbel (Nat.le_refl _))
      have HY := hid (HA1.out.up hbel (Nat.le_refl _))
      clear hown hbel
      have q0 : (0 : Int) ≤ (i : Int) := by omega
      have q1 : (0 : Int) ≤ (k : Int) := by omega
      by_cases ha : i < xs.length
      · have i1 : (i : Int) < xs.length := by omega
        have i2 : decide ((i : Int) < (xs.length : Int)) = true := decide_eq_true i1
        have i3 : decide (i < xs.length) = true := decide_eq_true ha
        have ar : ∀ f u, xs[i].cells[f]? = some u → wr.cell? ⟨g0, i * 4 + f, none⟩ = some u := fun f u hu => by
          obtain ⟨b, o, hb, hlt, hc⟩ := HX.out (by intro e; rw [List.map_eq_nil_iff] at e; rw [e] at ha; exact absurd ha (by simp))
          injection hb with hb
          injection hb with hb1 hb2
          subst hb1 hb2
          have h9 := hc i _ (by rw [List.getElem?_map, List.getElem?_eq_getElem ha]; rfl) f u hu
          rw [Nat.zero_add] at h9
          exact h9
        have a0 : wr.cell? ⟨g0, i * 4, none⟩ = some (.int .i64 xs[i].fDay) := ar 0 _ rfl
        have a1 : wr.cell? ⟨g0, i * 4 + 1, none⟩ = some (.string xs[i].fWho) := ar 1 _ rfl
        have a2 : wr.cell? ⟨g0, i * 4 + 2, none⟩ = some (.int .i64 xs[i].fKind) := ar 2 _ rfl
        have a3 : wr.cell? ⟨g0, i * 4 + 3, none⟩ = some (.int .i64 xs[i].fAmount) := ar 3 _ rfl
        by_cases hb : k < ys.length
        · have k1 : (k : Int) < ys.length := by omega
          have k4 : ((k : Int) == (ys.length : Int)) = false := by rw [beq_eq_false_iff_ne]; omega
          have k5 : ¬ (k = ys.length) := by omega
          have br : ∀ f u, ys[k].cells[f]? = some u → wr.cell? ⟨g1, k * 4 + f, none⟩ = some u := fun f u hu => by
            obtain ⟨b, o, hb, hlt, hc⟩ := HY.out (by intro e; rw [List.map_eq_nil_iff] at e; rw [e] at hb; exact absurd hb (by simp))
            injection hb with hb
            injection hb with hb1 hb2
            subst hb1 hb2
            have h9 := hc k _ (by rw [List.getElem?_map, List.getElem?_eq_getElem hb]; rfl) f u hu
            rw [Nat.zero_add] at h9
            exact h9
          have b0 : wr.cell? ⟨g1, k * 4, none⟩ = some (.int .i64 ys[k].fDay) := br 0 _ rfl
          have b1 : wr.cell? ⟨g1, k * 4 + 1, none⟩ = some (.string ys[k].fWho) := br 1 _ rfl
          have b2 : wr.cell? ⟨g1, k * 4 + 2, none⟩ = some (.int .i64 ys[k].fKind) := br 2 _ rfl
          have b3 : wr.cell? ⟨g1, k * 4 + 3, none⟩ = some (.int .i64 ys[k].fAmount) := br 3 _ rfl
          clear ar br
          by_cases hd : xs[i].fDay ≤ ys[k].fDay
          · have d1 : decide (xs[i].fDay ≤ ys[k].fDay) = true := decide_eq_true hd
            have HM := hid (mergeK_left ha (.inr ⟨hb, hd⟩))
            have HZ2 := hid (show (Z ++ [xs[i]]).length = (i + 1) + (k) ∧ (Z ++ [xs[i]]) ++ mergeK DVisit.fDay (xs.drop (i + 1)) (ys.drop (k)) = mergeK DVisit.fDay xs ys from ⟨by rw [List.length_append, HZ.out.1, List.length_singleton]; omega, by rw [← HZ.out.2, HM.out]; simp⟩)
            go_wp2_with fail
            go_big_quiet (fail)
            go_wp2_with (at_builtin; refine wpList_app2 (w0 := w) rfl (.tmp 57) (.tmp 62) 50 rfl w.heap.size 76 (.agg #[.int .i64 0, .string ⟨#[]⟩, .int .i64 0, .int .i64 0]) 4 40 Try.underlying50 infoVisit rfl (by decide) _ (i + k) (Z.map DVisit.cells).flatten rfl (by first | exact O2.out | exact own_below O2.out (below_drewN' (Below.refl _ _) _)) #[.int .i64 xs[i].fDay, .string xs[i].fWho, .int .i64 xs[i].fKind, .int .i64 xs[i].fAmount] 1 1 (by first | (simp [Act.eval]; done) | (simp [Act.eval, setCells]; done)) rfl (by simp [Value.oneCell']) (by omega) B2.out.size (by first | exact B2.out | exact below_drewN' B2.out _) ?_; intro v9 w11 hown9 hbel9 hg9 hb9; have O9 := hid hown9; have B9 := hid hbel9; clear hown9 hbel9 hg9 hb9)
            go_roundw
            case rel => exact ⟨i + 1, k, Z ++ [xs[i]], ⟨by go_num, by go_num⟩, ⟨by omega, by omega⟩, HZ2.out, by
              have h9 := O9.out
              rw [List.map_append, List.flatten_append]
              have e : i + k + 1 = (i + 1) + (k) := by omega
              rw [← e]
              simpa [DVisit.cells] using h9, B9.out⟩
            case measure => simp [intOf]; omega
          · have d1 : decide (xs[i].fDay ≤ ys[k].fDay) = false := decide_eq_false hd
            have HM := hid (mergeK_right hb (.inr ⟨ha, hd⟩))
            have HZ2 := hid (show (Z ++ [ys[k]]).length = (i) + (k + 1) ∧ (Z ++ [ys[k]]) ++ mergeK DVisit.fDay (xs.drop (i)) (ys.drop (k + 1)) = mergeK DVisit.fDay xs ys from ⟨by rw [List.length_append, HZ.out.1, List.length_singleton]; omega, by rw [← HZ.out.2, HM.out]; simp⟩)
            go_wp2_with fail
            go_big_quiet (fail)
            go_wp2_with (at_builtin; refine wpList_app2 (w0 := w) rfl (.tmp 66) (.tmp 71) 50 rfl w.heap.size 76 (.agg #[.int .i64 0, .string ⟨#[]⟩, .int .i64 0, .int .i64 0]) 4 40 Try.underlying50 infoVisit rfl (by decide) _ (i + k) (Z.map DVisit.cells).flatten rfl (by first | exact O2.out | exact own_below O2.out (below_drewN' (Below.refl _ _) _)) #[.int .i64 ys[k].fDay, .string ys[k].fWho, .int .i64 ys[k].fKind, .int .i64 ys[k].fAmount] 1 1 (by first | (simp [Act.eval]; done) | (simp [Act.eval, setCells]; done)) rfl (by simp [Value.oneCell']) (by omega) B2.out.size (by first | exact B2.out | exact below_drewN' B2.out _) ?_; intro v9 w11 hown9 hbel9 hg9 hb9; have O9 := hid hown9; have B9 := hid hbel9; clear hown9 hbel9 hg9 hb9)
            go_roundw
            case rel => exact ⟨i, k + 1, Z ++ [ys[k]], ⟨by go_num, by go_num⟩, ⟨by omega, by omega⟩, HZ2.out, by
              have h9 := O9.out
              rw [List.map_append, List.flatten_append]
              have e : i + k + 1 = (i) + (k + 1) := by omega
              rw [← e]
              simpa [DVisit.cells] using h9, B9.out⟩
            case measure => simp [intOf]; omega
        · obtain rfl : k = ys.length := by omega
          have k4 : ((ys.length : Int) == (ys.length : Int)) = true := by simp
          clear ar
          have HM := hid (mergeK_left (ys := ys) (k := ys.length) ha (.inl rfl))
          have HZ2 := hid (show (Z ++ [xs[i]]).length = (i + 1) + (ys.length) ∧ (Z ++ [xs[i]]) ++ mergeK DVisit.fDay (xs.drop (i + 1)) (ys.drop (ys.length)) = mergeK DVisit.fDay xs ys from ⟨by rw [List.length_append, HZ.out.1, List.length_singleton]; omega, by rw [← HZ.out.2, HM.out]; simp⟩)
          go_wp2_with fail
          go_big_quiet (fail)
          go_wp2_with (at_builtin; refine wpList_app2 (w0 := w) rfl (.tmp 57) (.tmp 62) 50 rfl w.heap.size 76 (.agg #[.int .i64 0, .string ⟨#[]⟩, .int .i64 0, .int .i64 0]) 4 40 Try.underlying50 infoVisit rfl (by decide) _ (i + ys.length) (Z.map DVisit.cells).flatten rfl (by first | exact O2.out | exact own_below O2.out (below_drewN' (Below.refl _ _) _)) #[.int .i64 xs[i].fDay, .string xs[i].fWho, .int .i64 xs[i].fKind, .int .i64 xs[i].fAmount] 1 1 (by first | (simp [Act.eval]; done) | (simp [Act.eval, setCells]; done)) rfl (by simp [Value.oneCell']) (by omega) B2.out.size (by first | exact B2.out | exact below_drewN' B2.out _) ?_; intro v9 w11 hown9 hbel9 hg9 hb9; have O9 := hid hown9; have B9 := hid hbel9; clear hown9 hbel9 hg9 hb9)
          go_roundw
          case rel => exact ⟨i + 1, ys.length, Z ++ [xs[i]], ⟨by go_num, by go_num⟩, ⟨by omega, by omega⟩, HZ2.out, by
            have h9 := O9.out
            rw [List.map_append, List.flatten_append]
            have e : i + ys.length + 1 = (i + 1) + (ys.length) := by omega
            rw [← e]
            simpa [DVisit.cells] using h9, B9.out⟩
          case measure => simp [intOf]; omega
      · obtain rfl : i = xs.length := by omega
        have i1 : ¬ (xs.length : Int) < xs.length := by omega
        have i2 : decide ((xs.length : Int) < (xs.length : Int)) = false := decide_eq_false i1
        by_cases hb : k < ys.length
        · have k1 : (k : Int) < ys.length := by omega
          have k4 : ((k : Int) == (ys.length : Int)) = false := by rw [beq_eq_false_iff_ne]; omega
          have k5 : ¬ (k = ys.length) := by omega
          have br : ∀ f u, ys[k].cells[f]? = some u → wr.cell? ⟨g1, k * 4 + f, none⟩ = some u := fun f u hu => by
            obtain ⟨b, o, hb, hlt, hc⟩ := HY.out (by intro e; rw [List.map_eq_nil_iff] at e; rw [e] at hb; exact absurd hb (by simp))
            injection hb with hb
            injection hb with hb1 hb2
            subst hb1 hb2
            have h9 := hc k _ (by rw [List.getElem?_map, List.getElem?_eq_getElem hb]; rfl) f u hu
            rw [Nat.zero_add] at h9
            exact h9
          have b0 : wr.cell? ⟨g1, k * 4, none⟩ = some (.int .i64 ys[k].fDay) := br 0 _ rfl
          have b1 : wr.cell? ⟨g1, k * 4 + 1, none⟩ = some (.string ys[k].fWho) := br 1 _ rfl
          have b2 : wr.cell? ⟨g1, k * 4 + 2, none⟩ = some (.int .i64 ys[k].fKind) := br 2 _ rfl
          have b3 : wr.cell? ⟨g1, k * 4 + 3, none⟩ = some (.int .i64 ys[k].fAmount) := br 3 _ rfl
          clear br
          have HM := hid (mergeK_right (xs := xs) (i := xs.length) hb (.inl rfl))
          have HZ2 := hid (show (Z ++ [ys[k]]).length = (xs.length) + (k + 1) ∧ (Z ++ [ys[k]]) ++ mergeK DVisit.fDay (xs.drop (xs.length)) (ys.drop (k + 1)) = mergeK DVisit.fDay xs ys from ⟨by rw [List.length_append, HZ.out.1, List.length_singleton]; omega, by rw [← HZ.out.2, HM.out]; simp⟩)
          go_wp2_with fail
          go_big_quiet (fail)
          go_wp2_with (at_builtin; refine wpList_app2 (w0 := w) rfl (.tmp 66) (.tmp 71) 50 rfl w.heap.size 76 (.agg #[.int .i64 0, .string ⟨#[]⟩, .int .i64 0, .int .i64 0]) 4 40 Try.underlying50 infoVisit rfl (by decide) _ (xs.length + k) (Z.map DVisit.cells).flatten rfl (by first | exact O2.out | exact own_below O2.out (below_drewN' (Below.refl _ _) _)) #[.int .i64 ys[k].fDay, .string ys[k].fWho, .int .i64 ys[k].fKind, .int .i64 ys[k].fAmount] 1 1 (by first | (simp [Act.eval]; done) | (simp [Act.eval, setCells]; done)) rfl (by simp [Value.oneCell']) (by omega) B2.out.size (by first | exact B2.out | exact below_drewN' B2.out _) ?_; intro v9 w11 hown9 hbel9 hg9 hb9; have O9 := hid hown9; have B9 := hid hbel9; clear hown9 hbel9 hg9 hb9)
          go_roundw
          case rel => exact ⟨xs.length, k + 1, Z ++ [ys[k]], ⟨by go_num, by go_num⟩, ⟨by omega, by omega⟩, HZ2.out, by
            have h9 := O9.out
            rw [List.map_append, List.flatten_append]
            have e : xs.length + k + 1 = (xs.length) + (k + 1) := by omega
            rw [← e]
            simpa [DVisit.cells] using h9, B9.out⟩
          case measure => simp [intOf]; omega
        · obtain rfl : k = ys.length := by omega
          have HE := hid (show Z = mergeK DVisit.fDay xs ys by
            have h9 := HZ.out.2
            rw [List.drop_length, List.drop_length, mergeK, List.append_nil] at h9
            exact h9)
          go_wp2_with fail
          go_ret2
          exact RetVisitC.own (l := Z) (n := xs.length + ys.length) (by rw [HF.out, HE.out]) (by rw [HZ.out.1]) O2.out B2.out



end Go.Proofs.Ytjeklbhdngkngaa
