/- DeedText and its reference. -/
import Derived.Test.YtmfadjdpbobfhaaDoorDec
import Derived.Test.YtmfadjdpbobfhaaDoorList
import Derived.Test.YtmfadjdpbobfhaaDoorKeep
import Derived.Test.YtmfadjdpbobfhaaDoorRange
import Derived.Test.YtmfadjdpbobfhaaDoorDeedO
namespace Go.Proofs.YtmfadjdpbobfhaaDoor
open Go.RowKit
set_option linter.unusedVariables false

theorem deedB_bd {xFrom xTo : ByteArray} {xYear xDoubt : Int} (h : deedB xFrom xTo xYear xDoubt = true) : xFrom.size ≤ 10 ∧ xTo.size ≤ 10 ∧ 0 ≤ xYear ∧ xYear ≤ 10000000 ∧ 0 ≤ xDoubt ∧ xDoubt ≤ 10000000 := by
  simp only [deedB, Bool.and_eq_true, inB_iff, Bool.not_eq_true'] at h
  obtain ⟨a0, a1, a2, a3, a4⟩ := h
  refine ⟨name_size a0, name_size a1, by omega, by omega, by omega, by omega⟩

/-- the text -/
def deedT (xFrom : ByteArray) (xTo : ByteArray) (xYear : Int) (xDoubt : Int) : ByteArray := dec xYear ++ ⟨#[32]⟩ ++ xFrom ++ ⟨#[45]⟩ ++ xTo ++ ⟨#[32]⟩ ++ dec xDoubt

set_option maxHeartbeats 800000 in
set_option maxRecDepth 100000 in
theorem DeedText_ok (xFrom : ByteArray) (xTo : ByteArray) (xYear : Int) (xDoubt : Int) (w : World) (hsFrom : xFrom.size ≤ maxLen) (hsTo : xTo.size ≤ maxLen) (ht : Tab w) :
    Calls Tryd.prog 77 #[.agg #[.string xFrom, .string xTo, .int .i64 xYear, .int .i64 xDoubt]] w fun e w' => e = .returned (.string (orNo (deedB xFrom xTo xYear xDoubt) (deedT xFrom xTo xYear xDoubt))) ∧ Below w.heap.size w w' := by
  cases hv : deedB xFrom xTo xYear xDoubt
  · go_enter Tryd.func77, Tryd.ntmps77
    go_wp2_with (go_at_call 127; refine (deedValid_ok _ _ _ _ _ hsFrom hsTo).mono ?_; rintro e w1 ⟨rfl, hb⟩)
    go_ret
    exact ⟨rfl, below_chain hb (Below.refl _ _)⟩
  · obtain ⟨zFrom, zTo, lYear, uYear, lDoubt, uDoubt⟩ := deedB_bd hv
    have HC0 := hid (HasC.new w [.string xFrom, .string xTo, .int .i64 xYear, .int .i64 xDoubt] 45)
    have HT := hid (ht.alloc (.cells [.string xFrom, .string xTo, .int .i64 xYear, .int .i64 xDoubt].toArray 45))
    clear ht
    go_enter Tryd.func77, Tryd.ntmps77
    go_wp2_with (go_at_call 127; refine (deedValid_ok _ _ _ _ _ hsFrom hsTo).mono ?_; rintro e w1 ⟨rfl, hb⟩)
    have HC := hid (HC0.out.below hb)
    have k0 : w1.cell? ⟨w.heap.size, 0, none⟩ = some (.string xFrom) := HC.out.2 0 _ rfl
    have k1 : w1.cell? ⟨w.heap.size, 1, none⟩ = some (.string xTo) := HC.out.2 1 _ rfl
    have k2 : w1.cell? ⟨w.heap.size, 2, none⟩ = some (.int .i64 xYear) := HC.out.2 2 _ rfl
    have k3 : w1.cell? ⟨w.heap.size, 3, none⟩ = some (.int .i64 xDoubt) := HC.out.2 3 _ rfl
    have hlt : w.heap.size < w1.heap.size := HC.out.1
    have ht1 : Tab w1 := HT.out.below hb
    clear HC HC0 HT hv
    have sdYear : (dec xYear).size ≤ 20 := dec_size (by omega) (by omega)
    have sdDoubt : (dec xDoubt).size ≤ 20 := dec_size (by omega) (by omega)
    have g1 : ¬ 9223372036854775807 < (dec xYear).size + 1 := by omega
    have g2 : ¬ 9223372036854775807 < (dec xYear).size + 1 + xFrom.size := by omega
    have g3 : ¬ 9223372036854775807 < (dec xYear).size + 1 + xFrom.size + 1 := by omega
    have g4 : ¬ 9223372036854775807 < (dec xYear).size + 1 + xFrom.size + 1 + xTo.size := by omega
    have g5 : ¬ 9223372036854775807 < (dec xYear).size + 1 + xFrom.size + 1 + xTo.size + 1 := by omega
    have g6 : ¬ 9223372036854775807 < (dec xYear).size + 1 + xFrom.size + 1 + xTo.size + 1 + (dec xDoubt).size := by omega
    go_region_held3 (fun w' => (Tab w' ∧ Below w1.heap.size w1 w') ∧ w'.cell? ⟨w.heap.size, 0, none⟩ = some (.string xFrom) ∧ w'.cell? ⟨w.heap.size, 1, none⟩ = some (.string xTo) ∧ w'.cell? ⟨w.heap.size, 2, none⟩ = some (.int .i64 xYear) ∧ w'.cell? ⟨w.heap.size, 3, none⟩ = some (.int .i64 xDoubt))
      (first | exact ⟨⟨ht1.drew, (Below.refl _ _).drew⟩, k0, k1, k2, k3⟩ | exact keepT4 hlt ‹_ ∧ _› ‹Below _ _ _›)
      (first | (go_at_call 59; refine (Decimal_ok _ _ (by omega) (by omega) (And.left (And.left ‹(Tab _ ∧ _) ∧ _›))).mono ?_; rintro e w2 ⟨rfl, hb2⟩))
    go_wp2_with fail
    go_ret
    obtain ⟨⟨_, hB⟩, _⟩ := ‹(Tab _ ∧ _) ∧ _›
    exact ⟨by simp [deedT, orNo], below_chain hb hB⟩






end Go.Proofs.YtmfadjdpbobfhaaDoor
