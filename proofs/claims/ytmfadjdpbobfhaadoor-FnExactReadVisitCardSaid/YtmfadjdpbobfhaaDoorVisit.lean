/- VisitText and its reference. -/
import Derived.Test.YtmfadjdpbobfhaaDoorDec
import Derived.Test.YtmfadjdpbobfhaaDoorList
import Derived.Test.YtmfadjdpbobfhaaDoorKeep
import Derived.Test.YtmfadjdpbobfhaaDoorRange
import Derived.Test.YtmfadjdpbobfhaaDoorKind
import Derived.Test.YtmfadjdpbobfhaaDoorVisitO
namespace Go.Proofs.YtmfadjdpbobfhaaDoor
open Go.RowKit
set_option linter.unusedVariables false

theorem visitB_bd {xWho : ByteArray} {xDay xKind xAmount : Int} (h : visitB xDay xWho xKind xAmount = true) : xWho.size ≤ 10 ∧ 0 ≤ xDay ∧ xDay ≤ 10000000 ∧ 0 ≤ xKind ∧ xKind ≤ 10000000 ∧ 0 ≤ xAmount ∧ xAmount ≤ 10000000 := by
  simp only [visitB, Bool.and_eq_true, inB_iff] at h
  obtain ⟨a0, a1, a2, a3⟩ := h
  refine ⟨name_size a1, by omega, by omega, by omega, by omega, by omega, by omega⟩

/-- the text -/
def visitT (xDay : Int) (xWho : ByteArray) (xKind : Int) (xAmount : Int) : ByteArray := dec xDay ++ ⟨#[32]⟩ ++ xWho ++ ⟨#[32]⟩ ++ kindT xKind ++ ⟨#[32]⟩ ++ dec xAmount

set_option maxHeartbeats 800000 in
set_option maxRecDepth 100000 in
theorem VisitText_ok (xDay : Int) (xWho : ByteArray) (xKind : Int) (xAmount : Int) (w : World) (hsWho : xWho.size ≤ maxLen) (ht : Tab w) :
    Calls Tryd.prog 82 #[.agg #[.int .i64 xDay, .string xWho, .int .i64 xKind, .int .i64 xAmount]] w fun e w' => e = .returned (.string (orNo (visitB xDay xWho xKind xAmount) (visitT xDay xWho xKind xAmount))) ∧ Below w.heap.size w w' := by
  cases hv : visitB xDay xWho xKind xAmount
  · go_enter Tryd.func82, Tryd.ntmps82
    go_wp2_with (go_at_call 132; refine (visitValid_ok _ _ _ _ _ hsWho).mono ?_; rintro e w1 ⟨rfl, hb⟩)
    go_ret
    exact ⟨rfl, below_chain hb (Below.refl _ _)⟩
  · obtain ⟨zWho, lDay, uDay, lKind, uKind, lAmount, uAmount⟩ := visitB_bd hv
    have HC0 := hid (HasC.new w [.int .i64 xDay, .string xWho, .int .i64 xKind, .int .i64 xAmount] 55)
    have HT := hid (ht.alloc (.cells [.int .i64 xDay, .string xWho, .int .i64 xKind, .int .i64 xAmount].toArray 55))
    clear ht
    go_enter Tryd.func82, Tryd.ntmps82
    go_wp2_with (go_at_call 132; refine (visitValid_ok _ _ _ _ _ hsWho).mono ?_; rintro e w1 ⟨rfl, hb⟩)
    have HC := hid (HC0.out.below hb)
    have k0 : w1.cell? ⟨w.heap.size, 0, none⟩ = some (.int .i64 xDay) := HC.out.2 0 _ rfl
    have k1 : w1.cell? ⟨w.heap.size, 1, none⟩ = some (.string xWho) := HC.out.2 1 _ rfl
    have k2 : w1.cell? ⟨w.heap.size, 2, none⟩ = some (.int .i64 xKind) := HC.out.2 2 _ rfl
    have k3 : w1.cell? ⟨w.heap.size, 3, none⟩ = some (.int .i64 xAmount) := HC.out.2 3 _ rfl
    have hlt : w.heap.size < w1.heap.size := HC.out.1
    have ht1 : Tab w1 := HT.out.below hb
    clear HC HC0 HT hv
    have sdDay : (dec xDay).size ≤ 20 := dec_size (by omega) (by omega)
    have sdAmount : (dec xAmount).size ≤ 20 := dec_size (by omega) (by omega)
    have skKind : (kindT xKind).size ≤ 6 := kindT_size _
    have g1 : ¬ 9223372036854775807 < (dec xDay).size + 1 := by omega
    have g2 : ¬ 9223372036854775807 < (dec xDay).size + 1 + xWho.size := by omega
    have g3 : ¬ 9223372036854775807 < (dec xDay).size + 1 + xWho.size + 1 := by omega
    have g4 : ¬ 9223372036854775807 < (dec xDay).size + 1 + xWho.size + 1 + (kindT xKind).size := by omega
    have g5 : ¬ 9223372036854775807 < (dec xDay).size + 1 + xWho.size + 1 + (kindT xKind).size + 1 := by omega
    have g6 : ¬ 9223372036854775807 < (dec xDay).size + 1 + xWho.size + 1 + (kindT xKind).size + 1 + (dec xAmount).size := by omega
    go_region_held3 (fun w' => (Tab w' ∧ Below w1.heap.size w1 w') ∧ w'.cell? ⟨w.heap.size, 0, none⟩ = some (.int .i64 xDay) ∧ w'.cell? ⟨w.heap.size, 1, none⟩ = some (.string xWho) ∧ w'.cell? ⟨w.heap.size, 2, none⟩ = some (.int .i64 xKind) ∧ w'.cell? ⟨w.heap.size, 3, none⟩ = some (.int .i64 xAmount))
      (first | exact ⟨⟨ht1.drew, (Below.refl _ _).drew⟩, k0, k1, k2, k3⟩ | exact keepT4 hlt ‹_ ∧ _› ‹Below _ _ _›)
      (first | (go_at_call 59; refine (Decimal_ok _ _ (by omega) (by omega) (And.left (And.left ‹(Tab _ ∧ _) ∧ _›))).mono ?_; rintro e w2 ⟨rfl, hb2⟩) | (go_at_call 133; refine (VisitKind_ok _ _ (by omega) (by omega)).mono ?_; rintro e w2 ⟨rfl, hb2⟩))
    go_wp2_with fail
    go_ret
    obtain ⟨⟨_, hB⟩, _⟩ := ‹(Tab _ ∧ _) ∧ _›
    exact ⟨by simp [visitT, orNo], below_chain hb hB⟩






end Go.Proofs.YtmfadjdpbobfhaaDoor
