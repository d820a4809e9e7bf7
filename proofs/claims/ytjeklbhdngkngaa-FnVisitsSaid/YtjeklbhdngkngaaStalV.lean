/- slices.SortStableFunc at impl.Visit: the whole sort of 32 or fewer. -/
import Derived.Test.YtjeklbhdngkngaaStagV
namespace Go.Proofs.Ytjeklbhdngkngaa
open Go.RowKit
set_option linter.unusedVariables false

/-- the whole row in order, all else as it was -/
def AllPostV (key : DVisit → Int) (B g cap n : Nat) (w0 : World) (X : List DVisit) (e : Ending) (w' : World) : Prop := e = .returned (.tuple #[]) ∧ ∃ Z, (UpK key Z ∧ SameK key X Z) ∧ Chg g (g + 1) w0 w' ∧ DatAt 76 4 DVisit.cells B g cap n Z w'
set_option maxHeartbeats 1600000 in
set_option maxRecDepth 100000 in
theorem stableV_ok (key : DVisit → Int) (D : DVisit → Prop) (B g cap n : Nat) (w0 : World) (hC : CmpV key D g w0) (hg : g < w0.heap.size) (hn : n ≤ 32) (X : List DVisit) (hD : ∀ z ∈ X, D z) (w : World) (hch : Chg g (g + 1) w0 w) (hd : DatAt 76 4 DVisit.cells B g cap n X w) :
    Calls Try.prog 138 #[.slice (some ⟨g, 0, none⟩) n cap, .int .i64 (n : Int), .func (.func 98) #[] #[]] w (AllPostV key B g cap n w0 X) := by
  have HC := hid hC
  have HD := hid hD
  have HCH := hid hch
  have hlen := hd.length hencV (by omega)
  have HLEN := hid hlen
  have z0 : ((0 : Nat) : Int) = 0 := rfl
  by_cases h20 : n < 20
  · have q1 : ¬ (20 : Int) ≤ (n : Int) := by omega
    have q2 : ¬ (20 : Int) < (n : Int) := by omega
    have HDA := hid (show DatAt 76 4 DVisit.cells B g cap n ([] ++ X ++ []) w by simpa using hd)
    clear hC hD hch hd hlen
    go_enter Try.func138, Try.ntmps138
    go_wp2_with fail
    go_loopw [7, 8] (fun vi vj wr => (vi = .int .i64 0 ∧ vj = .int .i64 20) ∧ wr = w) (fun _ _ _ => 0)
    case atStart => exact ⟨⟨rfl, rfl⟩, rfl⟩
    case round =>
      obtain ⟨⟨rfl, rfl⟩, rfl⟩ := hrel
      go_wp2_with fail
      refine (insV_ok key D B g cap n w0 HC.out hg (by omega) [] X [] 0 n rfl (by have := HLEN.out; omega) (fun z hz => HD.out z (by simpa using hz)) _ HCH.out HDA.out).mono ?_
      rintro e w6 ⟨rfl, Z2, hz, hch6, hd6⟩
      have HZ2 := hid hz
      have HCH := hid hch6
      have HDA := hid hd6
      clear hz hch6 hd6
      go_wp2_with fail
      go_loopw [6, 7, 8] (fun v6 v7 v8 wr => v6 = .int .i64 20 ∧ wr = w6) (fun _ _ _ _ => 0)
      case atStart => exact ⟨rfl, rfl⟩
      case round =>
        obtain ⟨rfl, rfl⟩ := hrel
        go_wp2_with fail
        (try simp only [Exit.inBlock, Exit.then]); first | refine bodyPost_ret (results_none rfl _ _ _) rfl ?_ | refine bodyPost_end (results_none rfl _ _ _) rfl ?_
        exact ⟨rfl, Z2, HZ2.out, HCH.out, by have h9 := HDA.out; simpa using h9⟩
  · have q1 : (20 : Int) ≤ (n : Int) := by omega
    have q3 : ¬ (40 : Int) ≤ (n : Int) := by omega
    have q4 : ¬ (40 : Int) < (n : Int) := by omega
    have HXX := hid (List.take_append_drop 20 X)
    have l1 : (X.take 20).length = 20 := by rw [List.length_take]; omega
    have l2 : (X.drop 20).length = n - 20 := by rw [List.length_drop]; omega
    obtain ⟨X1, hX1⟩ : ∃ l, l = X.take 20 := ⟨_, rfl⟩
    obtain ⟨X2, hX2⟩ : ∃ l, l = X.drop 20 := ⟨_, rfl⟩
    have HX := hid (show X1 ++ X2 = X by rw [hX1, hX2, List.take_append_drop])
    have HL1 := hid (show X1.length = 20 by rw [hX1]; exact l1)
    have HL2 := hid (show X2.length = n - 20 by rw [hX2]; exact l2)
    have HDA := hid (show DatAt 76 4 DVisit.cells B g cap n ([] ++ X1 ++ X2) w by rw [List.nil_append, HX.out]; exact hd)
    have HDX := hid (show ∀ z ∈ X1 ++ X2, D z by rw [HX.out]; exact hD)
    clear hC hD hch hd hlen l1 l2 hX1 hX2 HXX HD
    go_enter Try.func138, Try.ntmps138
    go_wp2_with fail
    go_loopw [7, 8] (fun vi vj wr => ((vi = .int .i64 0 ∧ vj = .int .i64 20) ∧ Hid (wr = w)) ∨ ((vi = .int .i64 20 ∧ vj = .int .i64 40) ∧ ∃ Z1, (UpK key Z1 ∧ SameK key X1 Z1) ∧ Chg g (g + 1) w0 wr ∧ DatAt 76 4 DVisit.cells B g cap n (Z1 ++ X2) wr)) (fun _ vj _ => 40 - (intOf vj).toNat)
    case atStart => exact .inl ⟨⟨rfl, rfl⟩, rfl⟩
    case round =>
      rcases hrel with ⟨⟨rfl, rfl⟩, hw9⟩ | ⟨⟨rfl, rfl⟩, Z1, hz, hch, hd⟩
      · obtain rfl := hw9
        go_wp2_with fail
        refine (insV_ok key D B g cap n w0 HC.out hg (by omega) [] X1 X2 0 20 rfl (by have := HL1.out; omega) (fun z hz => HDX.out z (by simpa using hz)) _ HCH.out HDA.out).mono ?_
        rintro e w6 ⟨rfl, Z2, hz, hch6, hd6⟩
        have HZ2 := hid hz
        have HCH := hid hch6
        have HDA := hid hd6
        clear hz hch6 hd6
        go_wp2_with fail
        go_roundw
        case rel => exact .inr ⟨⟨rfl, rfl⟩, Z2, HZ2.out, HCH.out, by have h9 := HDA.out; simpa using h9⟩
        case measure => simp [intOf]
      · clear HCH HDA
        have HZ1 := hid hz
        have HCH := hid hch
        have HDA := hid (show DatAt 76 4 DVisit.cells B g cap n (Z1 ++ X2 ++ []) wr by rw [List.append_nil]; exact hd)
        have HLZ := hid (show Z1.length = 20 by rw [hz.2.1]; exact HL1.out)
        clear hz hch hd
        go_wp2_with fail
        refine (insV_ok key D B g cap n w0 HC.out hg (by omega) Z1 X2 [] 20 n HLZ.out (by have := HL2.out; omega) (fun z hz => HDX.out z (by rw [List.append_nil] at hz; rcases List.mem_append.1 hz with h | h; exact List.mem_append_left _ (HZ1.out.2.mem h); exact List.mem_append_right _ h)) _ HCH.out HDA.out).mono ?_
        rintro e w6 ⟨rfl, Z2, hz, hch6, hd6⟩
        have HZ2 := hid hz
        have HCH := hid hch6
        have HDA := hid hd6
        clear hz hch6 hd6
        have HDA := hid (show DatAt 76 4 DVisit.cells B g cap n ([] ++ (Z1 ++ (Z2 ++ []))) w6 by have h9 := HDA.out; simpa using h9)
        have HSX := hid (show SameK key X (Z1 ++ Z2) by rw [← HX.out]; exact HZ1.out.2.app HZ2.out.2)
        have HDZ := hid (show ∀ z ∈ Z1 ++ Z2, D z from fun z hz => HDX.out z ((HZ1.out.2.app HZ2.out.2).mem hz))
        have HLW := hid (show Z2.length = n - 20 by rw [HZ2.out.2.1]; exact HL2.out)
        go_wp2_with fail
        go_loopw [6, 7, 8] (fun v6 v7 v8 wr => (v6 = .int .i64 20 ∧ Hid (wr = w6)) ∨ (v6 = .int .i64 40 ∧ 20 < n ∧ ∃ Z, (UpK key Z ∧ SameK key X Z) ∧ Chg g (g + 1) w0 wr ∧ DatAt 76 4 DVisit.cells B g cap n Z wr)) (fun v6 _ _ _ => 40 - (intOf v6).toNat)
        case atStart => exact .inl ⟨rfl, rfl⟩
        case round =>
          rcases hrel with ⟨rfl, hw9⟩ | ⟨rfl, hn2, Z, hz, hch, hd⟩
          · obtain rfl := hw9
            by_cases hn2 : 20 < n
            · have q5 : (20 : Int) < (n : Int) := by omega
              go_wp2_with fail
              go_loopw [7, 8] (fun vi vj wr2 => (vi = .int .i64 0 ∧ vj = .int .i64 40) ∧ Hid (wr2 = wr)) (fun _ _ _ => 0)
              case atStart => exact ⟨⟨rfl, rfl⟩, rfl⟩
              case round =>
                obtain ⟨⟨rfl, rfl⟩, hw9⟩ := hrel
                obtain rfl := hw9
                go_wp2_with fail
                refine (symV_all key D B g cap n w0 HC.out hg (by omega) n [] Z1 Z2 [] 0 20 n (by omega) rfl (by have := HLZ.out; omega) (by have := HLW.out; omega) (by have := HLZ.out; omega) (by have := HLW.out; omega) HZ1.out.1 HZ2.out.1 HDZ.out _ HCH.out HDA.out).mono ?_
                rintro e w7 ⟨rfl, Z, hz, hch7, hd7⟩
                have HZ := hid hz
                have HCH := hid hch7
                have HDA := hid hd7
                clear hz hch7 hd7
                go_wp2_with fail
                go_roundw
                case rel => exact .inr ⟨rfl, hn2, Z, ⟨HZ.out.1, HSX.out.trans HZ.out.2⟩, HCH.out, by have h9 := HDA.out; simpa using h9⟩
                case measure => simp [intOf]
            · have q5 : ¬ (20 : Int) < (n : Int) := by omega
              have HZN := hid (show Z2 = [] from List.eq_nil_of_length_eq_zero (by have := HLW.out; omega))
              go_wp2_with fail
              (try simp only [Exit.inBlock, Exit.then]); first | refine bodyPost_ret (results_none rfl _ _ _) rfl ?_ | refine bodyPost_end (results_none rfl _ _ _) rfl ?_
              exact ⟨rfl, Z1 ++ Z2, ⟨by rw [HZN.out, List.append_nil]; exact HZ1.out.1, HSX.out⟩, HCH.out, by have h9 := HDA.out; simpa using h9⟩
          · clear HCH HDA
            have HZ := hid hz
            have HCH := hid hch
            have HDA := hid hd
            clear hz hch hd
            go_wp2_with fail
            (try simp only [Exit.inBlock, Exit.then]); first | refine bodyPost_ret (results_none rfl _ _ _) rfl ?_ | refine bodyPost_end (results_none rfl _ _ _) rfl ?_
            exact ⟨rfl, Z, HZ.out, HCH.out, HDA.out⟩
theorem sortV_ok (key : DVisit → Int) (D : DVisit → Prop) (B g cap n : Nat) (w0 : World) (hC : CmpV key D g w0) (hg : g < w0.heap.size) (hn : n ≤ 32) (X : List DVisit) (hD : ∀ z ∈ X, D z) (w : World) (hch : Chg g (g + 1) w0 w) (hd : DatAt 76 4 DVisit.cells B g cap n X w) :
    Calls Try.prog 97 #[.slice (some ⟨g, 0, none⟩) n cap, .func (.func 98) #[] #[]] w (AllPostV key B g cap n w0 X) := by
  have HC := hid hC
  have HD := hid hD
  have HCH := hid hch
  have HDA := hid hd
  clear hC hD hch hd
  go_enter Try.func97, Try.ntmps97
  go_wp2_with fail
  refine (stableV_ok key D B g cap n w0 HC.out hg hn X HD.out _ HCH.out HDA.out).mono ?_
  rintro e w6 ⟨rfl, Z, hz, hch6, hd6⟩
  have HZ := hid hz
  have HCH := hid hch6
  have HDA := hid hd6
  clear hz hch6 hd6
  go_wp2_with fail
  (try simp only [Exit.inBlock, Exit.then]); first | refine bodyPost_ret (results_none rfl _ _ _) rfl ?_ | refine bodyPost_end (results_none rfl _ _ _) rfl ?_
  exact ⟨rfl, Z, HZ.out, HCH.out, HDA.out⟩

end Go.Proofs.Ytjeklbhdngkngaa
