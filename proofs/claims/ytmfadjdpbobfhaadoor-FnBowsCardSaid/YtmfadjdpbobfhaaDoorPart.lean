/- PartText. -/
import Derived.Test.YtmfadjdpbobfhaaDoorDec
import Derived.Test.YtmfadjdpbobfhaaDoorKeep
import Derived.Test.YtmfadjdpbobfhaaDoorPartO
namespace Go.Proofs.YtmfadjdpbobfhaaDoor
open Go.RowKit
set_option linter.unusedVariables false

theorem partB_bd {id : ByteArray} {p m : Int} (h : partB id p m = true) : 0 ≤ p ∧ p ≤ 8000 ∧ 1 ≤ m ∧ m ≤ 100000 := by
  simp [partB, inB] at h
  omega

theorem partB_nm {id : ByteArray} {p m : Int} (h : partB id p m = true) : id.size ≤ 10 := by
  simp only [partB, Bool.and_eq_true] at h
  exact name_size h.1

theorem PartText_ok (id : ByteArray) (p m : Int) (w : World) (hs : id.size ≤ maxLen) (ht : Tab w) :
    Calls Tryd.prog 39 #[.agg #[.string id, .int .i64 p, .int .i64 m]] w fun e w' => e = .returned (.string (orNo (partB id p m) (partT id p m))) ∧ Below w.heap.size w w' := by
  cases hv : partB id p m
  · go_enter Tryd.func39, Tryd.ntmps39
    go_wp2_with (go_at_call 87; refine (partValid_ok _ _ _ _ hs).mono ?_; rintro e w1 ⟨rfl, hb⟩)
    go_ret
    exact ⟨rfl, below_chain hb (Below.refl _ _)⟩
  · have bd := partB_bd hv
    go_enter Tryd.func39, Tryd.ntmps39
    go_wp2_with (go_at_call 87; refine (partValid_ok _ _ _ _ hs).mono ?_; rintro e w1 ⟨rfl, hb⟩; obtain ⟨hc, hf⟩ := bcell hb)
    have hlt : w.heap.size < w1.heap.size := by have := hb.size; simp at this; omega
    have k0 : w1.cell? ⟨w.heap.size, 0, none⟩ = some (.string id) := by rw [hc _ _ (by simp)]; simp
    have k1 : w1.cell? ⟨w.heap.size, 1, none⟩ = some (.int .i64 p) := by rw [hc _ _ (by simp)]; simp
    have k2 : w1.cell? ⟨w.heap.size, 2, none⟩ = some (.int .i64 m) := by rw [hc _ _ (by simp)]; simp
    have ht1 : Tab w1 := (ht.alloc _).below hb
    clear hc hf ht
    have s0 : id.size ≤ 10 := partB_nm hv
    have s1 : (dec m).size ≤ 20 := dec_size (by omega) (by omega)
    have s2 : (dec p).size ≤ 20 := dec_size (by omega) (by omega)
    have g1 : ¬ 9223372036854775807 < id.size + 1 := by omega
    have g2 : ¬ 9223372036854775807 < id.size + 1 + (dec m).size := by omega
    have g3 : ¬ 9223372036854775807 < id.size + 1 + (dec m).size + 1 := by omega
    have g4 : ¬ 9223372036854775807 < id.size + 1 + (dec m).size + 1 + (dec p).size := by omega
    go_region_held3 (fun w' => (Tab w' ∧ Below w1.heap.size w1 w') ∧ w'.cell? ⟨w.heap.size, 0, none⟩ = some (.string id) ∧ w'.cell? ⟨w.heap.size, 1, none⟩ = some (.int .i64 p) ∧ w'.cell? ⟨w.heap.size, 2, none⟩ = some (.int .i64 m))
      (first | exact ⟨⟨ht1.drew, (Below.refl _ _).drew⟩, k0, k1, k2⟩ | exact keep3 hlt ‹_ ∧ _› ‹Below _ _ _›)
      (first | (go_at_call 59; refine (Decimal_ok _ _ (by omega) (by omega) (And.left (And.left ‹(Tab _ ∧ _) ∧ _›))).mono ?_; rintro e w2 ⟨rfl, hb2⟩))
    go_wp2_with fail
    go_ret
    obtain ⟨⟨_, hB⟩, _⟩ := ‹(Tab _ ∧ _) ∧ _›
    exact ⟨by simp [partT, orNo], below_chain hb hB⟩

end Go.Proofs.YtmfadjdpbobfhaaDoor
