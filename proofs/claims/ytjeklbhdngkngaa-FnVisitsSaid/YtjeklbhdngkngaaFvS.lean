/- FnVisits: the calls of its loop, by what they answer on merged visits. -/
import Derived.Test.YtjeklbhdngkngaaGap
import Derived.Test.YtjeklbhdngkngaaR8
namespace Go.Proofs.Ytjeklbhdngkngaa
open Go.RowKit
set_option linter.unusedVariables false

theorem gaps_gen (A : Option Addr) (c : Nat) (xs : List DVisit) (who : ByteArray) (w : World) (hA : RowsAt w 4 A (xs.map DVisit.cells)) (hok : ∀ x ∈ xs, x.ok) (hn : xs.length ≤ 1048576) (hnone : A = none → c = 0) (hv : visitsB xs = true) (gs : List Int) (hgs : gapsI xs who = gs) (n : Nat) (hl : gs.length = n) :
    Calls Try.prog 49 #[.slice A xs.length c, .string who] w fun e w' => (∃ g c', e = .returned (.tuple #[.slice (some ⟨g, 0, none⟩) n c', .int .i64 0]) ∧ w'.ownsRow w.heap.size 2 1 (.slice (some ⟨g, 0, none⟩) n c') n (gs.map (Value.int .i64))) ∧ Below w.heap.size w w' := by
  subst hl
  exact gapsOf_ok A c xs who w hA hok hn hnone hv gs hgs
theorem last_gen (A : Option Addr) (c : Nat) (xs : List DVisit) (who : ByteArray) (w : World) (hA : RowsAt w 4 A (xs.map DVisit.cells)) (hok : ∀ x ∈ xs, x.ok) (hn : xs.length ≤ 1048576) (hnone : A = none → c = 0) (hv : visitsB xs = true) (d m : Int) (hd : lastI xs who = d) (hm : (if visF xs who = [] then (3 : Int) else 0) = m) :
    Calls Try.prog 50 #[.slice A xs.length c, .string who] w fun e w' => e = .returned (.tuple #[.int .i64 d, .int .i64 m]) ∧ Below w.heap.size w w' := by
  subst hd hm
  exact lastVisit_ok A c xs who w hA hok hn hnone hv
set_option maxHeartbeats 1600000 in
set_option maxRecDepth 100000 in
theorem specSpent_ok (A : Option Addr) (c : Nat) (xs : List DVisit) (who : ByteArray) (w : World) (hA : RowsAt w 4 A (xs.map DVisit.cells)) (hok : ∀ x ∈ xs, x.ok) (hv : visitsB xs = true) (r : Int) (hr : spentI xs who = r) :
    Calls Try.prog 51 #[.slice A xs.length c, .string who] w fun e w' => e = .returned (.tuple #[.int .i64 r, .int .i64 0]) ∧ Below w.heap.size w w' := by
  have hvv := visitsB_iff.1 hv
  have h32 := hvv.2
  have HM := hid (visits_amt hvv.1)
  have HA := hid hA
  have HK := hid hok
  have HV := hid hv
  have HR := hid hr
  clear hA hok hv hr hvv
  go_enter Try.func51, Try.ntmps51
  go_wp2_with fail
  refine (l22Ok_ok A c xs _ HA.out HK.out (by omega)).mono ?_
  rintro e w1 ⟨rfl, hb⟩
  rw [HV.out]
  have B1 := hid hb
  clear hb
  go_wp2_with fail
  refine (l22Spent_ok A c xs who _ (HA.out.below B1.out) h32 HM.out r HR.out).mono ?_
  rintro e w2 ⟨rfl, rfl⟩
  go_wp2_with fail
  go_ret2
  exact ⟨rfl, B1.out⟩
/-- the answers about a customer -/
theorem cust_facts {xs : List DVisit} (hv : VisitsTo xs xs.length) {z : Str} (hz : z ∈ setOf (namesN (custN xs) xs.length)) :
    ∃ n : Nat, (visF xs (tB z)).length = n + 1 ∧ (gapsI xs (tB z)).length = n ∧ n ≤ xs.length ∧ gapsI xs (tB z) = gapsT (visF xs (tB z)) n ∧ dayAt (visF xs (tB z)) n = lastI xs (tB z) ∧ headD (visF xs (tB z)) = dayAt (visF xs (tB z)) 0 ∧ visF xs (tB z) ≠ [] ∧
      (∀ l, 0 ≤ dayAt (visF xs (tB z)) l ∧ dayAt (visF xs (tB z)) l ≤ 100000) ∧ ∀ l, l < n → dayAt (visF xs (tB z)) l ≤ dayAt (visF xs (tB z)) (l + 1) := by
  have hne := vis_some hz
  have hp : 0 < (visF xs (tB z)).length := List.length_pos_iff.2 hne
  have hle := visF_le xs (tB z)
  have hup : UpK DVisit.fDay xs := visits_up hv
  refine ⟨(visF xs (tB z)).length - 1, by omega, gapsT_length _ _, by omega, rfl, lastI_dayAt hne, headD_eq hne, hne, fun l => dayAt_bd (visF_day hv _) l, fun l hl => dayAt_up (visF_up hup _) (by omega) (by omega)⟩

end Go.Proofs.Ytjeklbhdngkngaa
