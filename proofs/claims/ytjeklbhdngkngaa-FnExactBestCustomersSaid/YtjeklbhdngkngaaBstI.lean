/- The customers who spent most: the walk of the program. -/
import Derived.Test.YtjeklbhdngkngaaBstM
import Derived.Test.YtjeklbhdngkngaaStalS
namespace Go.Proofs.Ytjeklbhdngkngaa
open Go.RowKit
set_option linter.unusedVariables false

set_option maxHeartbeats 1600000 in
set_option maxRecDepth 100000 in
theorem implBst_ok (g0 : Nat) (xs : List DVisit) (m : Int) (w : World) (hA : RowsAt w 4 (some ⟨g0, 0, none⟩) (xs.map DVisit.cells)) (hok : ∀ x ∈ xs, x.ok) (hn : xs.length ≤ 1048576) :
    Calls Try.prog 38 #[.slice (some ⟨g0, 0, none⟩) xs.length xs.length, .int .i64 m] w (RetSC w (fBst xs m)) := by
  have HX0 := hid (HasC.new w [.slice (some ⟨g0, 0, none⟩) xs.length xs.length] 50)
  have HA := hid (hA.below (below_alloc w (.cells #[.slice (some ⟨g0, 0, none⟩) xs.length xs.length] 50)))
  have HK := hid hok
  have hmf : ∀ (fn : Fn) (first cap : Array Value) (w : World), (Instr.makeFunc fn first cap).run Try.prog w = .ok (.func fn first cap) w := fun _ _ _ _ => rfl
  clear hA hok
  cases c1 : visitsB xs
  · have HF := hid (show fBst xs m = ([], 1) by unfold fBst; rw [if_pos c1])
    go_enter Try.func38, Try.ntmps38
    go_wp2_with fail
    refine (ValidVisits_ok _ _ xs _ HA.out HK.out hn).mono ?_
    rintro e w1 ⟨rfl, hb⟩
    have B1 := hid hb
    clear hb
    go_wp2_with fail
    go_ret2
    exact RetSC.nil HF.out (below_chain B1.out (Below.refl _ _))
  have h32 := (visitsB_iff.1 c1).2
  have HV := hid (visitsB_iff.1 c1).1
  cases c2 : inB m 0 32
  · have HF := hid (show fBst xs m = ([], 2) by unfold fBst; rw [if_neg (by rw [c1]; exact fun h => by cases h), if_pos c2])
    go_enter Try.func38, Try.ntmps38
    go_wp2_with fail
    refine (ValidVisits_ok _ _ xs _ HA.out HK.out hn).mono ?_
    rintro e w1 ⟨rfl, hb⟩
    have B1 := hid hb
    have k1 := (HX0.out.below hb).2 0 _ rfl
    clear hb
    go_wp2_with (go_at_call 77; refine (within_ok _ _ _ _).mono ?_; rintro e w' ⟨rfl, rfl⟩)
    go_ret2
    exact RetSC.nil HF.out (below_chain B1.out (Below.refl _ _))
  have hm := inB_iff.1 c2
  obtain ⟨k, rfl⟩ : ∃ k : Nat, m = (k : Int) := ⟨m.toNat, by omega⟩
  obtain ⟨F, hF⟩ : ∃ F, namesV xs = F := ⟨_, rfl⟩
  obtain ⟨S, hS⟩ : ∃ S, srtK (keyN xs) F = S := ⟨_, rfl⟩
  have hFl : F.length ≤ 32 := by have := namesV_len xs; rw [hF] at this; omega
  have hSl : S.length = F.length := by rw [← hS, srtK_length]
  have HF := hid (show fBst xs (k : Int) = (S.take k, 0) by unfold fBst; rw [if_neg (by rw [c1]; exact fun h => by cases h), if_neg (by rw [c2]; exact fun h => by cases h), hF, hS]; rfl)
  have HFN := hid hF
  have HSN := hid hS
  clear hF hS
  go_enter Try.func38, Try.ntmps38
  go_wp2_with fail
  refine (ValidVisits_ok _ _ xs _ HA.out HK.out hn).mono ?_
  rintro e w1 ⟨rfl, hb⟩
  have B1 := hid hb
  have k1 := (HX0.out.below hb).2 0 _ rfl
  clear hb
  go_wp2_with (first
    | (go_at_call 77; refine (within_ok _ _ _ _).mono ?_; rintro e w' ⟨rfl, rfl⟩)
    | (go_at_call 103; refine (customers_gen _ _ xs _ (HA.out.below B1.out) (by omega) F HFN.out).mono ?_; rintro e w2 ⟨⟨g2, c2, rfl, ho⟩, hb2⟩; have B2 := hid (below_trans B1.out hb2); have O2 := hid ho; clear ho hb2))
  have hlt := O2.out.lt g2 rfl
  have hOW : DatAt 9 1 sC w1.heap.size g2 c2 F.length (F.map tB) w2 := by
    have h9 := O2.out
    unfold DatAt
    rw [sC_flat]
    exact h9
  refine (sortS_ok (keyB xs) (fun _ => True) w1.heap.size g2 c2 F.length w.heap.size w2 (cmpB_ok _ _ xs w.heap.size g2 _ w2 HA.out h32 (fun h => by cases h) (visits_amt HV.out) HX0.out.1 (HX0.out.2 0 _ rfl) B2.out (Nat.le_trans B1.out.size hlt.1) (Nat.le_of_lt hlt.2)) hlt.2 hFl (F.map tB) (fun _ _ => trivial) w2 (Chg.refl _ _ _) hOW).mono ?_
  rintro e w3 ⟨rfl, Z, hz, hch, hd⟩
  have hZ : Z = S.map tB := by
    rw [← HSN.out, ← srtK_of hz.1 hz.2, srtK_map]
    rfl
  subst hZ
  have O3 := hid (show w3.ownsRow w1.heap.size 9 1 (.slice (some ⟨g2, 0, none⟩) F.length c2) F.length (S.map vS) by have h9 := hd; unfold DatAt at h9; rw [sC_flat] at h9; exact h9)
  have B3 := hid (B2.out.trans ((hch.wide (Nat.le_trans B1.out.size hlt.1) (Nat.le_refl _)).below B2.out.size))
  have hcap := own_capB O3.out
  clear hz hch hd hOW hlt k1
  by_cases hkn : k < F.length
  · have e1 : (k : Int) < (F.length : Int) := by omega
    have e2 : (0 : Int) ≤ (k : Int) := by omega
    have e3 : (k : Int) ≤ (c2 : Int) := by omega
    have e5 : min (F.length : Int) (k : Int) = (k : Int) := by omega
    have HFF := HF
    go_wp2_with (go_at_call 107; refine (cloneStr_gen (some ⟨g2, 0, none⟩) c2 k (S.take k) _ (own_src O3.out k) (by rw [List.length_take]; omega) (fun h => by cases h) (by rw [List.length_take]; omega)).mono ?_; rintro e w4 ⟨g4, rfl, ho4, hb4⟩)
    go_ret2
    refine RetSC.own (l := S.take k) HFF.out ?_ (below_chain (below_trans B3.out hb4) (Below.refl _ _))
    rw [show (S.take k).length = k by rw [List.length_take]; omega]
    exact own_mono ho4 (by have := B3.out.size; simp at this; omega)
  · have e1 : ¬ (k : Int) < (F.length : Int) := by omega
    have e3 : (F.length : Int) ≤ (c2 : Int) := by omega
    have e5 : min (F.length : Int) (k : Int) = (F.length : Int) := by omega
    have HFF := hid (show fBst xs (k : Int) = (S.take F.length, 0) by rw [HF.out, List.take_of_length_le (by omega), List.take_of_length_le (by omega)])
    go_wp2_with (go_at_call 107; refine (cloneStr_gen (some ⟨g2, 0, none⟩) c2 F.length (S.take F.length) _ (own_src O3.out F.length) (by rw [List.length_take]; omega) (fun h => by cases h) (by rw [List.length_take]; omega)).mono ?_; rintro e w4 ⟨g4, rfl, ho4, hb4⟩)
    go_ret2
    refine RetSC.own (l := S.take F.length) HFF.out ?_ (below_chain (below_trans B3.out hb4) (Below.refl _ _))
    rw [show (S.take F.length).length = F.length by rw [List.length_take]; omega]
    exact own_mono ho4 (by have := B3.out.size; simp at this; omega)

end Go.Proofs.Ytjeklbhdngkngaa
