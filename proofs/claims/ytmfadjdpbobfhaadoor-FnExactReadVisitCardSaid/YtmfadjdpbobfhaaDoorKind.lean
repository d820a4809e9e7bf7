/- Kinds of visits: impl's VisitKind, spec's l22Names. -/
import Derived.Test.YtmfadjdpbobfhaaDoorBasic
import Derived.Test.YtmfadjdpbobfhaaDoorKeep
namespace Go.Proofs.YtmfadjdpbobfhaaDoor
open Go.RowKit
set_option linter.unusedVariables false

/-- the name of a kind -/
def kindT (n : Int) : ByteArray := if n = 1 then ⟨#[114, 101, 112, 97, 105, 114]⟩ else if n = 2 then ⟨#[114, 101, 110, 116, 97, 108]⟩ else if n = 3 then ⟨#[115, 97, 108, 101]⟩ else if n = 4 then ⟨#[116, 117, 110, 101]⟩ else ⟨#[]⟩
theorem kindT_size (n : Int) : (kindT n).size ≤ 6 := by
  unfold kindT
  split
  · decide
  split
  · decide
  split
  · decide
  split <;> decide

theorem l22Names_ok (w : World) :
    Calls Tryd.prog 80 #[] w fun e w' => e = .returned (.slice (some ⟨w.heap.size, 0, none⟩) 5 5) ∧ w.heap.size < w'.heap.size ∧ Below w.heap.size w w' ∧ (∀ (k : Nat), k < 5 → w'.cell? ⟨w.heap.size, k, none⟩ = some (.string (kindT k))) := by
  go_enter Tryd.func80, Tryd.ntmps80
  go_wp2_with fail
  go_ret
  refine ⟨rfl, by simp, below_alloc _ _, fun k hk => ?_⟩
  rw [cell_of_row _ _ _ _ _ _ (heap_alloc_new w _)]
  match k, hk with
  | 0, _ => rfl
  | 1, _ => rfl
  | 2, _ => rfl
  | 3, _ => rfl
  | 4, _ => rfl

theorem at_ok (i n : Int) (w : World) (h0 : 0 ≤ n) (h1 : n ≤ 1048576) : Calls Tryd.prog 103 #[.int .i64 i, .int .i64 n] w fun e w' => e = .returned (.bool (decide (0 ≤ i) && decide (i < n))) ∧ w = w' := by
  go_enter Tryd.func103, Tryd.ntmps103
  go_wp2
  all_goals (go_ret; exact ⟨ret_bool (by rw [Bool.eq_iff_iff]; simp; try omega), rfl⟩)

theorem pick_in (n : Nat) (m c b o : Nat) (t : ByteArray) (w : World) (hn : n < m) (hm : m ≤ 1048576) (hc : w.cell? ⟨b, o + n, none⟩ = some (.string t)) :
    Calls Tryd.prog 158 #[.int .i64 n, .slice (some ⟨b, o, none⟩) m c] w fun e w' => e = .returned (.string t) ∧ w = w' := by
  have q0 : (0 : Int) ≤ (n : Int) := by omega
  have q1 : (n : Int) < (m : Int) := by omega
  go_enter Tryd.func158, Tryd.ntmps158
  go_wp2_with (go_at_call 103; refine (at_ok _ _ _ (by omega) (by omega)).mono ?_; rintro e w' ⟨rfl, rfl⟩)
  go_ret
  exact ⟨rfl, rfl⟩
theorem pick_out (n : Int) (A : Option Addr) (m c : Nat) (w : World) (hn : (m : Int) ≤ n) (hm : m ≤ 1048576) :
    Calls Tryd.prog 158 #[.int .i64 n, .slice A m c] w fun e w' => e = .returned (.string ⟨#[]⟩) ∧ w = w' := by
  have q1 : decide (n < (m : Int)) = false := by simp; omega
  go_enter Tryd.func158, Tryd.ntmps158
  go_wp2_with (go_at_call 103; refine (at_ok _ _ _ (by omega) (by omega)).mono ?_; rintro e w' ⟨rfl, rfl⟩)
  go_ret
  exact ⟨rfl, rfl⟩

theorem VisitKind_ok (n : Int) (w : World) (h0 : 0 ≤ n) (h1 : n ≤ 10000000) :
    Calls Tryd.prog 133 #[.int .i64 n] w fun e w' => e = .returned (.string (kindT n)) ∧ Below w.heap.size w w' := by
  by_cases h5 : 5 ≤ n
  · have e : kindT n = ⟨#[]⟩ := by
      unfold kindT
      rw [if_neg (by omega), if_neg (by omega), if_neg (by omega), if_neg (by omega)]
    rw [e]
    clear e
    go_enter Tryd.func133, Tryd.ntmps133
    go_wp2_with (go_at_call 158; refine (pick_out _ _ 5 _ _ (by omega) (by omega)).mono ?_; rintro e w' ⟨rfl, rfl⟩)
    go_ret
    exact ⟨rfl, below_alloc _ _⟩
  · obtain ⟨k, rfl⟩ := Int.eq_ofNat_of_zero_le h0
    have hk : k < 5 := by omega
    clear h0 h1 h5
    go_enter Tryd.func133, Tryd.ntmps133
    go_wp2_with (go_at_call 158; refine (pick_in k 5 _ _ 0 (kindT k) _ hk (by omega) ?_).mono ?_)
    · rw [Nat.zero_add, cell_of_row _ _ _ _ _ _ (heap_alloc_new w _)]
      match k, hk with
      | 0, _ => rfl
      | 1, _ => rfl
      | 2, _ => rfl
      | 3, _ => rfl
      | 4, _ => rfl
    rintro e w' ⟨rfl, rfl⟩
    go_wp2_with fail
    go_ret
    exact ⟨rfl, below_alloc _ _⟩

end Go.Proofs.YtmfadjdpbobfhaaDoor
