/- CommonAncestor and its reference. -/
import Derived.Test.YtnekigpeknenjaaCom2
namespace Go.Proofs.Ytnekigpeknenjaa
open Go.RowKit
set_option linter.unusedVariables false

def RetNC (w : World) (r : Int × Int) (e : Ending) (w' : World) : Prop := e = .returned (.tuple #[.int .i64 r.1, .int .i64 r.2]) ∧ Below w.heap.size w w'
theorem RetNC.mk {w w' : World} {r : Int × Int} {a c : Int} (h : r = (a, c)) (hb : Below w.heap.size w w') : RetNC w r (.returned (.tuple #[.int .i64 a, .int .i64 c])) w' := by
  subst h
  exact ⟨rfl, hb⟩

set_option maxHeartbeats 800000 in
set_option maxRecDepth 100000 in
theorem implCom_ok (A : Option Addr) (c : Nat) (xs : List DVersion) (a b : Int) (w : World) (hA : NestAt 2 hdVersion inVersion w A xs) (hok : ∀ x ∈ xs, x.ok) (hn : xs.length ≤ 1048576) (hi : ∀ x ∈ xs, x.fIn.length ≤ 1048576) (ra : -9223372036854775808 ≤ a ∧ a ≤ 9223372036854775807) (rb : -9223372036854775808 ≤ b ∧ b ≤ 9223372036854775807) :
    Calls Try.prog 28 #[.slice A xs.length c, .int .i64 a, .int .i64 b] w (RetNC w (fCom xs a b)) := by
  have HA := hid hA
  have HK := hid hok
  have HI := hid hi
  clear hA hok hi
  cases c1 : histB xs
  · have HF := hid (show fCom xs a b = (0, 1) by unfold fCom; rw [if_pos c1])
    go_enter Try.func28, Try.ntmps28
    go_wp2_with fail
    refine (ValidHistory_ok A c xs _ HA.out HK.out hn HI.out).mono ?_
    rintro e w1 ⟨rfl, hb⟩
    go_wp2_with fail
    go_ret2
    exact RetNC.mk HF.out hb
  cases c2 : inB a 1 xs.length
  · have HF := hid (show fCom xs a b = (0, 3) by unfold fCom; rw [if_neg (by rw [c1]; exact fun h => by cases h), if_pos (by rw [c2]; rfl)])
    go_enter Try.func28, Try.ntmps28
    go_wp2_with fail
    refine (ValidHistory_ok A c xs _ HA.out HK.out hn HI.out).mono ?_
    rintro e w1 ⟨rfl, hb⟩
    go_wp2_with (go_at_call 98; refine (isVersion_ok _ _ _ _ _ (by omega) (by omega) (by omega)).mono ?_; rintro e w' ⟨rfl, rfl⟩)
    go_ret2
    exact RetNC.mk HF.out hb
  cases c3 : inB b 1 xs.length
  · have HF := hid (show fCom xs a b = (0, 3) by unfold fCom; rw [if_neg (by rw [c1]; exact fun h => by cases h), if_pos (by rw [c2, c3]; rfl)])
    go_enter Try.func28, Try.ntmps28
    go_wp2_with fail
    refine (ValidHistory_ok A c xs _ HA.out HK.out hn HI.out).mono ?_
    rintro e w1 ⟨rfl, hb⟩
    go_wp2_with (go_at_call 98; refine (isVersion_ok _ _ _ _ _ (by omega) (by omega) (by omega)).mono ?_; rintro e w' ⟨rfl, rfl⟩)
    go_ret2
    exact RetNC.mk HF.out hb
  have hma := inB_iff.1 c2
  have hmb := inB_iff.1 c3
  obtain ⟨p, rfl⟩ : ∃ p : Nat, a = p := ⟨a.toNat, by omega⟩
  obtain ⟨q, rfl⟩ : ∃ q : Nat, b = q := ⟨b.toNat, by omega⟩
  have HF := hid (show fCom xs p q = (comN xs p q, 0) by unfold fCom; rw [if_neg (by rw [c1]; exact fun h => by cases h), if_neg (by rw [c2, c3]; exact fun h => by cases h)]; rfl)
  have HH := hid (histB_iff.1 c1)
  have hl := HH.out.2
  go_enter Try.func28, Try.ntmps28
  go_wp2_with fail
  refine (ValidHistory_ok A c xs _ HA.out HK.out hn HI.out).mono ?_
  rintro e w1 ⟨rfl, hb⟩
  have B1 := hid hb
  clear hb
  go_wp2_with (first | (go_at_call 98; refine (isVersion_ok _ _ _ _ _ (by omega) (by omega) (by omega)).mono ?_; rintro e w' ⟨rfl, rfl⟩) | (go_at_call 99; refine (common_ok _ _ xs p q _ (HA.out.below B1.out) HH.out.1 hl (by omega) (by omega) (by omega) (by omega)).mono ?_; rintro e w2 ⟨rfl, hb2⟩))
  go_ret2
  exact RetNC.mk HF.out (below_trans B1.out hb2)

set_option maxHeartbeats 800000 in
set_option maxRecDepth 100000 in
theorem specCom_ok (A : Option Addr) (c : Nat) (xs : List DVersion) (a b : Int) (w : World) (hA : NestAt 2 hdVersion inVersion w A xs) (hok : ∀ x ∈ xs, x.ok) (hn : xs.length ≤ 1048576) (hi : ∀ x ∈ xs, x.fIn.length ≤ 1048576) (ra : -9223372036854775808 ≤ a ∧ a ≤ 9223372036854775807) (rb : -9223372036854775808 ≤ b ∧ b ≤ 9223372036854775807) :
    Calls Try.prog 26 #[.slice A xs.length c, .int .i64 a, .int .i64 b] w (RetNC w (fCom xs a b)) := by
  have HA := hid hA
  have HK := hid hok
  have HI := hid hi
  clear hA hok hi
  cases c1 : histB xs
  · have HF := hid (show fCom xs a b = (0, 1) by unfold fCom; rw [if_pos c1])
    go_enter Try.func26, Try.ntmps26
    go_wp2_with fail
    refine (l27Ok_ok A c xs _ HA.out HK.out hn HI.out).mono ?_
    rintro e w1 ⟨rfl, hb⟩
    go_wp2_with fail
    go_ret2
    exact RetNC.mk HF.out hb
  cases c2 : inB a 1 xs.length
  · have HF := hid (show fCom xs a b = (0, 3) by unfold fCom; rw [if_neg (by rw [c1]; exact fun h => by cases h), if_pos (by rw [c2]; rfl)])
    go_enter Try.func26, Try.ntmps26
    go_wp2_with fail
    refine (l27Ok_ok A c xs _ HA.out HK.out hn HI.out).mono ?_
    rintro e w1 ⟨rfl, hb⟩
    go_wp2_with (go_at_call 94; refine (l27Number_ok _ _ _ _ _).mono ?_; rintro e w' ⟨rfl, rfl⟩)
    go_ret2
    exact RetNC.mk HF.out hb
  cases c3 : inB b 1 xs.length
  · have HF := hid (show fCom xs a b = (0, 3) by unfold fCom; rw [if_neg (by rw [c1]; exact fun h => by cases h), if_pos (by rw [c2, c3]; rfl)])
    go_enter Try.func26, Try.ntmps26
    go_wp2_with fail
    refine (l27Ok_ok A c xs _ HA.out HK.out hn HI.out).mono ?_
    rintro e w1 ⟨rfl, hb⟩
    go_wp2_with (go_at_call 94; refine (l27Number_ok _ _ _ _ _).mono ?_; rintro e w' ⟨rfl, rfl⟩)
    go_ret2
    exact RetNC.mk HF.out hb
  have hma := inB_iff.1 c2
  have hmb := inB_iff.1 c3
  obtain ⟨p, rfl⟩ : ∃ p : Nat, a = p := ⟨a.toNat, by omega⟩
  obtain ⟨q, rfl⟩ : ∃ q : Nat, b = q := ⟨b.toNat, by omega⟩
  have HF := hid (show fCom xs p q = (comN xs p q, 0) by unfold fCom; rw [if_neg (by rw [c1]; exact fun h => by cases h), if_neg (by rw [c2, c3]; exact fun h => by cases h)]; rfl)
  have HH := hid (histB_iff.1 c1)
  have hl := HH.out.2
  go_enter Try.func26, Try.ntmps26
  go_wp2_with fail
  refine (l27Ok_ok A c xs _ HA.out HK.out hn HI.out).mono ?_
  rintro e w1 ⟨rfl, hb⟩
  have B1 := hid hb
  clear hb
  go_wp2_with (first | (go_at_call 94; refine (l27Number_ok _ _ _ _ _).mono ?_; rintro e w' ⟨rfl, rfl⟩) | (go_at_call 95; refine (l27Common_ok _ _ xs p q _ (HA.out.below B1.out) HH.out.1 hl (by omega) (by omega) (by omega) (by omega)).mono ?_; rintro e w2 ⟨rfl, hb2⟩))
  go_ret2
  exact RetNC.mk HF.out (below_trans B1.out hb2)

end Go.Proofs.Ytnekigpeknenjaa
