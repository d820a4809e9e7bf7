/- Arguments opened: slices of integers. No program in sight. -/
import Derived.Test.YtmfadjdpbobfhaaDoorKit
import Derived.Test.YtmfadjdpbobfhaaDoorLawKit
namespace Go.Proofs.YtmfadjdpbobfhaaDoor
open Go.ChangeShapes Go.WideShapes Go.ChangeAt Go.RowKit

section
variable {H : Type} {enc : TypeId × Value → H} {P : Program} {w : World} {base : Nat} {spare : Nat → Bool} {held : Bool}
/-- a slice of int64 that came in -/
theorem ints_arg {t e : TypeId} {fuel : Nat} {cs : List Value} {x : DataW H × List MemPlace} (ht : P.underlying t = some (.slice e)) (he : P.underlying e = some (.int .i64)) (hc : P.cellsOf e = 1)
    (h : DataW.trod enc P w base spare held fuel t cs = some x) :
    ∃ (A : Option Addr) (c : Nat) (ns : List Int), cs = [.slice A ns.length c] ∧ IntsAt w A ns ∧ ns.length ≤ maxLen ∧ ∀ n ∈ ns, -9223372036854775808 ≤ n ∧ n ≤ 9223372036854775807 := by
  rcases open_ints ht he hc h with ⟨hcs, _⟩ | ⟨a, len, cap, zs, hcs, _, hl, hm, hz, _, hcell, hwf⟩
  · exact ⟨none, 0, [], hcs, fun hne => absurd rfl hne, Nat.zero_le _, fun n hn => absurd hn (by simp)⟩
  · have hzl : len ≤ zs.length := by rw [hz]; split <;> omega
    have hlen : (zs.take len).length = len := by rw [List.length_take]; omega
    refine ⟨some a, cap, zs.take len, by rw [hlen]; exact hcs, fun hne => ?_, by rw [hlen]; omega, fun n hn => ?_⟩
    · have hp : 0 < zs.length := by
        rcases Nat.eq_zero_or_pos zs.length with h0 | h0
        · have : zs = [] := List.eq_nil_of_length_eq_zero h0
          subst this
          exact absurd (by simp) hne
        · exact h0
      obtain ⟨b, off, rfl, hc2⟩ := ints_at hcell hp
      refine ⟨b, off, rfl, World.block_lt_of_cell? _ _ (hc2 0 hp), fun j m hj => ?_⟩
      have hjl : j < len := by have := (List.getElem?_eq_some_iff.1 hj).1; omega
      rw [List.getElem?_take, if_pos hjl] at hj
      rw [hc2 j (by omega), List.getD_eq_getElem?_getD, hj]
      rfl
    · have := hwf n (List.mem_of_mem_take hn)
      simpa [Lit.wf, IntKind.min, IntKind.max, IntKind.signed, IntKind.bits] using this
end

end Go.Proofs.YtmfadjdpbobfhaaDoor
