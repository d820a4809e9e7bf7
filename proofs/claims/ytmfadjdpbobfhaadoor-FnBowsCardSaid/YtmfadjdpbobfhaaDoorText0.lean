/- Decimal numerals, and what every text law needs. -/
import Derived.Test.YtmfadjdpbobfhaaDoorBasic
import Derived.Test.YtmfadjdpbobfhaaDoorHas
import Derived.Test.YtmfadjdpbobfhaaDoorShelf
import Derived.Test.YtmfadjdpbobfhaaDoorListMath
import Derived.Deep.RegionHeld3
import Derived.Lib.SmallJoins
namespace Go.Proofs.YtmfadjdpbobfhaaDoor
open Go.RowKit
set_option linter.unusedVariables false

/-- the table that strconv reads -/
def Tab (w : World) : Prop := Lib.TabIs Tryd.prog w "internal/strconv.uint64pow10" .u64 Lib.pow10Tab
theorem gTab : Tryd.prog.globalNamed "internal/strconv.uint64pow10" = some 1 := by kernel_rfl
theorem Tab.below {w w' : World} (h : Tab w) (hb : Below w.heap.size w w') : Tab w' := Joins.tab_stays gTab h hb (Nat.le_refl _)

theorem below_grow {w : World} {k : Nat} {os : Array Obj} : Below w.heap.size w (Sort.grow (w.drewN k) os) := by
  refine ⟨rfl, rfl, rfl, ?_, fun j hj => ?_⟩
  · show w.heap.size ≤ (w.heap ++ os).size
    simp
  · show (w.heap ++ os)[j]? = _
    rw [Array.getElem?_append_left hj]


theorem Decimal_ok (n : Int) (w : World) (h0 : -9223372036854775808 ≤ n) (h1 : n ≤ 9223372036854775807) (ht : Tab w) :
    Calls Tryd.prog 59 #[.int .i64 n] w fun e w' => e = .returned (.string (dec n)) ∧ Below w.heap.size w w' := by
  have HT := Lib.hid ht
  clear ht
  go_enter Tryd.func59, Tryd.ntmps59
  go_wp2_with (go_at_call 106; refine (Tryd.strconv_FormatInt_10 n h0 h1 _ HT.out).mono ?_; rintro e w' ⟨rfl, k, os, rfl⟩)
  go_ret
  exact ⟨rfl, below_grow⟩

theorem Tab.alloc {w : World} (h : Tab w) (o : Obj) : Tab (w.alloc o) := h.below ((Below.refl _ _).alloc (Nat.le_refl _) _)
theorem Tab.drew {w : World} (h : Tab w) : Tab w.drew := h.below ((Below.refl _ _).drew)
theorem keep3 {w1 : World} {b o0 o1 o2 : Nat} {v0 v1 v2 : Value} (hb : b < w1.heap.size) {wa wb : World} (h : (Tab wa ∧ Below w1.heap.size w1 wa) ∧ wa.cell? ⟨b, o0, none⟩ = some v0 ∧ wa.cell? ⟨b, o1, none⟩ = some v1 ∧ wa.cell? ⟨b, o2, none⟩ = some v2) (hx : Below wa.heap.size wa wb) :
    (Tab wb ∧ Below w1.heap.size w1 wb) ∧ wb.cell? ⟨b, o0, none⟩ = some v0 ∧ wb.cell? ⟨b, o1, none⟩ = some v1 ∧ wb.cell? ⟨b, o2, none⟩ = some v2 := by
  obtain ⟨⟨h0, h1⟩, h2, h3, h4⟩ := h
  have hl : b < wa.heap.size := Nat.lt_of_lt_of_le hb h1.size
  exact ⟨⟨h0.below hx, h1.trans (hx.mono h1.size)⟩, (hx.cell (p := ⟨b, _, none⟩) hl).trans h2, (hx.cell (p := ⟨b, _, none⟩) hl).trans h3, (hx.cell (p := ⟨b, _, none⟩) hl).trans h4⟩
theorem keep3' {w1 : World} {b o0 o1 o2 : Nat} {v0 v1 v2 : Value} (hb : b < w1.heap.size) {wa wb : World} (h : (True ∧ Below w1.heap.size w1 wa) ∧ wa.cell? ⟨b, o0, none⟩ = some v0 ∧ wa.cell? ⟨b, o1, none⟩ = some v1 ∧ wa.cell? ⟨b, o2, none⟩ = some v2) (hx : Below wa.heap.size wa wb) :
    (True ∧ Below w1.heap.size w1 wb) ∧ wb.cell? ⟨b, o0, none⟩ = some v0 ∧ wb.cell? ⟨b, o1, none⟩ = some v1 ∧ wb.cell? ⟨b, o2, none⟩ = some v2 := by
  obtain ⟨⟨_, h1⟩, h2, h3, h4⟩ := h
  have hl : b < wa.heap.size := Nat.lt_of_lt_of_le hb h1.size
  exact ⟨⟨trivial, h1.trans (hx.mono h1.size)⟩, (hx.cell (p := ⟨b, _, none⟩) hl).trans h2, (hx.cell (p := ⟨b, _, none⟩) hl).trans h3, (hx.cell (p := ⟨b, _, none⟩) hl).trans h4⟩

end Go.Proofs.YtmfadjdpbobfhaaDoor
