/- What a region keeps: a block's cells, the table, all that is old. -/
import Derived.Test.YtmfadjdpbobfhaaDoorText0
import Derived.Deep.QuietTactic
import Derived.BigQuiet
namespace Go.Proofs.YtmfadjdpbobfhaaDoor
open Go.RowKit

theorem keepT1 {w1 : World} {b o0 : Nat} {v0 : Value} (hb : b < w1.heap.size) {wa wb : World} (h : (Tab wa ∧ Below w1.heap.size w1 wa) ∧ wa.cell? ⟨b, o0, none⟩ = some v0) (hx : Below wa.heap.size wa wb) :
    (Tab wb ∧ Below w1.heap.size w1 wb) ∧ wb.cell? ⟨b, o0, none⟩ = some v0 := by
  obtain ⟨⟨h0, h1⟩, k0⟩ := h
  have hl : b < wa.heap.size := Nat.lt_of_lt_of_le hb h1.size
  exact ⟨⟨h0.below hx, h1.trans (hx.mono h1.size)⟩, (hx.cell (p := ⟨b, _, none⟩) hl).trans k0⟩
theorem keepN1 {w1 : World} {b o0 : Nat} {v0 : Value} (hb : b < w1.heap.size) {wa wb : World} (h : (True ∧ Below w1.heap.size w1 wa) ∧ wa.cell? ⟨b, o0, none⟩ = some v0) (hx : Below wa.heap.size wa wb) :
    (True ∧ Below w1.heap.size w1 wb) ∧ wb.cell? ⟨b, o0, none⟩ = some v0 := by
  obtain ⟨⟨_, h1⟩, k0⟩ := h
  have hl : b < wa.heap.size := Nat.lt_of_lt_of_le hb h1.size
  exact ⟨⟨trivial, h1.trans (hx.mono h1.size)⟩, (hx.cell (p := ⟨b, _, none⟩) hl).trans k0⟩
theorem keepT2 {w1 : World} {b o0 o1 : Nat} {v0 v1 : Value} (hb : b < w1.heap.size) {wa wb : World} (h : (Tab wa ∧ Below w1.heap.size w1 wa) ∧ wa.cell? ⟨b, o0, none⟩ = some v0 ∧ wa.cell? ⟨b, o1, none⟩ = some v1) (hx : Below wa.heap.size wa wb) :
    (Tab wb ∧ Below w1.heap.size w1 wb) ∧ wb.cell? ⟨b, o0, none⟩ = some v0 ∧ wb.cell? ⟨b, o1, none⟩ = some v1 := by
  obtain ⟨⟨h0, h1⟩, k0, k1⟩ := h
  have hl : b < wa.heap.size := Nat.lt_of_lt_of_le hb h1.size
  exact ⟨⟨h0.below hx, h1.trans (hx.mono h1.size)⟩, (hx.cell (p := ⟨b, _, none⟩) hl).trans k0, (hx.cell (p := ⟨b, _, none⟩) hl).trans k1⟩
theorem keepN2 {w1 : World} {b o0 o1 : Nat} {v0 v1 : Value} (hb : b < w1.heap.size) {wa wb : World} (h : (True ∧ Below w1.heap.size w1 wa) ∧ wa.cell? ⟨b, o0, none⟩ = some v0 ∧ wa.cell? ⟨b, o1, none⟩ = some v1) (hx : Below wa.heap.size wa wb) :
    (True ∧ Below w1.heap.size w1 wb) ∧ wb.cell? ⟨b, o0, none⟩ = some v0 ∧ wb.cell? ⟨b, o1, none⟩ = some v1 := by
  obtain ⟨⟨_, h1⟩, k0, k1⟩ := h
  have hl : b < wa.heap.size := Nat.lt_of_lt_of_le hb h1.size
  exact ⟨⟨trivial, h1.trans (hx.mono h1.size)⟩, (hx.cell (p := ⟨b, _, none⟩) hl).trans k0, (hx.cell (p := ⟨b, _, none⟩) hl).trans k1⟩
theorem keepT3 {w1 : World} {b o0 o1 o2 : Nat} {v0 v1 v2 : Value} (hb : b < w1.heap.size) {wa wb : World} (h : (Tab wa ∧ Below w1.heap.size w1 wa) ∧ wa.cell? ⟨b, o0, none⟩ = some v0 ∧ wa.cell? ⟨b, o1, none⟩ = some v1 ∧ wa.cell? ⟨b, o2, none⟩ = some v2) (hx : Below wa.heap.size wa wb) :
    (Tab wb ∧ Below w1.heap.size w1 wb) ∧ wb.cell? ⟨b, o0, none⟩ = some v0 ∧ wb.cell? ⟨b, o1, none⟩ = some v1 ∧ wb.cell? ⟨b, o2, none⟩ = some v2 := by
  obtain ⟨⟨h0, h1⟩, k0, k1, k2⟩ := h
  have hl : b < wa.heap.size := Nat.lt_of_lt_of_le hb h1.size
  exact ⟨⟨h0.below hx, h1.trans (hx.mono h1.size)⟩, (hx.cell (p := ⟨b, _, none⟩) hl).trans k0, (hx.cell (p := ⟨b, _, none⟩) hl).trans k1, (hx.cell (p := ⟨b, _, none⟩) hl).trans k2⟩
theorem keepN3 {w1 : World} {b o0 o1 o2 : Nat} {v0 v1 v2 : Value} (hb : b < w1.heap.size) {wa wb : World} (h : (True ∧ Below w1.heap.size w1 wa) ∧ wa.cell? ⟨b, o0, none⟩ = some v0 ∧ wa.cell? ⟨b, o1, none⟩ = some v1 ∧ wa.cell? ⟨b, o2, none⟩ = some v2) (hx : Below wa.heap.size wa wb) :
    (True ∧ Below w1.heap.size w1 wb) ∧ wb.cell? ⟨b, o0, none⟩ = some v0 ∧ wb.cell? ⟨b, o1, none⟩ = some v1 ∧ wb.cell? ⟨b, o2, none⟩ = some v2 := by
  obtain ⟨⟨_, h1⟩, k0, k1, k2⟩ := h
  have hl : b < wa.heap.size := Nat.lt_of_lt_of_le hb h1.size
  exact ⟨⟨trivial, h1.trans (hx.mono h1.size)⟩, (hx.cell (p := ⟨b, _, none⟩) hl).trans k0, (hx.cell (p := ⟨b, _, none⟩) hl).trans k1, (hx.cell (p := ⟨b, _, none⟩) hl).trans k2⟩
theorem keepT4 {w1 : World} {b o0 o1 o2 o3 : Nat} {v0 v1 v2 v3 : Value} (hb : b < w1.heap.size) {wa wb : World} (h : (Tab wa ∧ Below w1.heap.size w1 wa) ∧ wa.cell? ⟨b, o0, none⟩ = some v0 ∧ wa.cell? ⟨b, o1, none⟩ = some v1 ∧ wa.cell? ⟨b, o2, none⟩ = some v2 ∧ wa.cell? ⟨b, o3, none⟩ = some v3) (hx : Below wa.heap.size wa wb) :
    (Tab wb ∧ Below w1.heap.size w1 wb) ∧ wb.cell? ⟨b, o0, none⟩ = some v0 ∧ wb.cell? ⟨b, o1, none⟩ = some v1 ∧ wb.cell? ⟨b, o2, none⟩ = some v2 ∧ wb.cell? ⟨b, o3, none⟩ = some v3 := by
  obtain ⟨⟨h0, h1⟩, k0, k1, k2, k3⟩ := h
  have hl : b < wa.heap.size := Nat.lt_of_lt_of_le hb h1.size
  exact ⟨⟨h0.below hx, h1.trans (hx.mono h1.size)⟩, (hx.cell (p := ⟨b, _, none⟩) hl).trans k0, (hx.cell (p := ⟨b, _, none⟩) hl).trans k1, (hx.cell (p := ⟨b, _, none⟩) hl).trans k2, (hx.cell (p := ⟨b, _, none⟩) hl).trans k3⟩
theorem keepN4 {w1 : World} {b o0 o1 o2 o3 : Nat} {v0 v1 v2 v3 : Value} (hb : b < w1.heap.size) {wa wb : World} (h : (True ∧ Below w1.heap.size w1 wa) ∧ wa.cell? ⟨b, o0, none⟩ = some v0 ∧ wa.cell? ⟨b, o1, none⟩ = some v1 ∧ wa.cell? ⟨b, o2, none⟩ = some v2 ∧ wa.cell? ⟨b, o3, none⟩ = some v3) (hx : Below wa.heap.size wa wb) :
    (True ∧ Below w1.heap.size w1 wb) ∧ wb.cell? ⟨b, o0, none⟩ = some v0 ∧ wb.cell? ⟨b, o1, none⟩ = some v1 ∧ wb.cell? ⟨b, o2, none⟩ = some v2 ∧ wb.cell? ⟨b, o3, none⟩ = some v3 := by
  obtain ⟨⟨_, h1⟩, k0, k1, k2, k3⟩ := h
  have hl : b < wa.heap.size := Nat.lt_of_lt_of_le hb h1.size
  exact ⟨⟨trivial, h1.trans (hx.mono h1.size)⟩, (hx.cell (p := ⟨b, _, none⟩) hl).trans k0, (hx.cell (p := ⟨b, _, none⟩) hl).trans k1, (hx.cell (p := ⟨b, _, none⟩) hl).trans k2, (hx.cell (p := ⟨b, _, none⟩) hl).trans k3⟩
theorem keepT5 {w1 : World} {b o0 o1 o2 o3 o4 : Nat} {v0 v1 v2 v3 v4 : Value} (hb : b < w1.heap.size) {wa wb : World} (h : (Tab wa ∧ Below w1.heap.size w1 wa) ∧ wa.cell? ⟨b, o0, none⟩ = some v0 ∧ wa.cell? ⟨b, o1, none⟩ = some v1 ∧ wa.cell? ⟨b, o2, none⟩ = some v2 ∧ wa.cell? ⟨b, o3, none⟩ = some v3 ∧ wa.cell? ⟨b, o4, none⟩ = some v4) (hx : Below wa.heap.size wa wb) :
    (Tab wb ∧ Below w1.heap.size w1 wb) ∧ wb.cell? ⟨b, o0, none⟩ = some v0 ∧ wb.cell? ⟨b, o1, none⟩ = some v1 ∧ wb.cell? ⟨b, o2, none⟩ = some v2 ∧ wb.cell? ⟨b, o3, none⟩ = some v3 ∧ wb.cell? ⟨b, o4, none⟩ = some v4 := by
  obtain ⟨⟨h0, h1⟩, k0, k1, k2, k3, k4⟩ := h
  have hl : b < wa.heap.size := Nat.lt_of_lt_of_le hb h1.size
  exact ⟨⟨h0.below hx, h1.trans (hx.mono h1.size)⟩, (hx.cell (p := ⟨b, _, none⟩) hl).trans k0, (hx.cell (p := ⟨b, _, none⟩) hl).trans k1, (hx.cell (p := ⟨b, _, none⟩) hl).trans k2, (hx.cell (p := ⟨b, _, none⟩) hl).trans k3, (hx.cell (p := ⟨b, _, none⟩) hl).trans k4⟩
theorem keepN5 {w1 : World} {b o0 o1 o2 o3 o4 : Nat} {v0 v1 v2 v3 v4 : Value} (hb : b < w1.heap.size) {wa wb : World} (h : (True ∧ Below w1.heap.size w1 wa) ∧ wa.cell? ⟨b, o0, none⟩ = some v0 ∧ wa.cell? ⟨b, o1, none⟩ = some v1 ∧ wa.cell? ⟨b, o2, none⟩ = some v2 ∧ wa.cell? ⟨b, o3, none⟩ = some v3 ∧ wa.cell? ⟨b, o4, none⟩ = some v4) (hx : Below wa.heap.size wa wb) :
    (True ∧ Below w1.heap.size w1 wb) ∧ wb.cell? ⟨b, o0, none⟩ = some v0 ∧ wb.cell? ⟨b, o1, none⟩ = some v1 ∧ wb.cell? ⟨b, o2, none⟩ = some v2 ∧ wb.cell? ⟨b, o3, none⟩ = some v3 ∧ wb.cell? ⟨b, o4, none⟩ = some v4 := by
  obtain ⟨⟨_, h1⟩, k0, k1, k2, k3, k4⟩ := h
  have hl : b < wa.heap.size := Nat.lt_of_lt_of_le hb h1.size
  exact ⟨⟨trivial, h1.trans (hx.mono h1.size)⟩, (hx.cell (p := ⟨b, _, none⟩) hl).trans k0, (hx.cell (p := ⟨b, _, none⟩) hl).trans k1, (hx.cell (p := ⟨b, _, none⟩) hl).trans k2, (hx.cell (p := ⟨b, _, none⟩) hl).trans k3, (hx.cell (p := ⟨b, _, none⟩) hl).trans k4⟩
theorem keepT6 {w1 : World} {b o0 o1 o2 o3 o4 o5 : Nat} {v0 v1 v2 v3 v4 v5 : Value} (hb : b < w1.heap.size) {wa wb : World} (h : (Tab wa ∧ Below w1.heap.size w1 wa) ∧ wa.cell? ⟨b, o0, none⟩ = some v0 ∧ wa.cell? ⟨b, o1, none⟩ = some v1 ∧ wa.cell? ⟨b, o2, none⟩ = some v2 ∧ wa.cell? ⟨b, o3, none⟩ = some v3 ∧ wa.cell? ⟨b, o4, none⟩ = some v4 ∧ wa.cell? ⟨b, o5, none⟩ = some v5) (hx : Below wa.heap.size wa wb) :
    (Tab wb ∧ Below w1.heap.size w1 wb) ∧ wb.cell? ⟨b, o0, none⟩ = some v0 ∧ wb.cell? ⟨b, o1, none⟩ = some v1 ∧ wb.cell? ⟨b, o2, none⟩ = some v2 ∧ wb.cell? ⟨b, o3, none⟩ = some v3 ∧ wb.cell? ⟨b, o4, none⟩ = some v4 ∧ wb.cell? ⟨b, o5, none⟩ = some v5 := by
  obtain ⟨⟨h0, h1⟩, k0, k1, k2, k3, k4, k5⟩ := h
  have hl : b < wa.heap.size := Nat.lt_of_lt_of_le hb h1.size
  exact ⟨⟨h0.below hx, h1.trans (hx.mono h1.size)⟩, (hx.cell (p := ⟨b, _, none⟩) hl).trans k0, (hx.cell (p := ⟨b, _, none⟩) hl).trans k1, (hx.cell (p := ⟨b, _, none⟩) hl).trans k2, (hx.cell (p := ⟨b, _, none⟩) hl).trans k3, (hx.cell (p := ⟨b, _, none⟩) hl).trans k4, (hx.cell (p := ⟨b, _, none⟩) hl).trans k5⟩
theorem keepN6 {w1 : World} {b o0 o1 o2 o3 o4 o5 : Nat} {v0 v1 v2 v3 v4 v5 : Value} (hb : b < w1.heap.size) {wa wb : World} (h : (True ∧ Below w1.heap.size w1 wa) ∧ wa.cell? ⟨b, o0, none⟩ = some v0 ∧ wa.cell? ⟨b, o1, none⟩ = some v1 ∧ wa.cell? ⟨b, o2, none⟩ = some v2 ∧ wa.cell? ⟨b, o3, none⟩ = some v3 ∧ wa.cell? ⟨b, o4, none⟩ = some v4 ∧ wa.cell? ⟨b, o5, none⟩ = some v5) (hx : Below wa.heap.size wa wb) :
    (True ∧ Below w1.heap.size w1 wb) ∧ wb.cell? ⟨b, o0, none⟩ = some v0 ∧ wb.cell? ⟨b, o1, none⟩ = some v1 ∧ wb.cell? ⟨b, o2, none⟩ = some v2 ∧ wb.cell? ⟨b, o3, none⟩ = some v3 ∧ wb.cell? ⟨b, o4, none⟩ = some v4 ∧ wb.cell? ⟨b, o5, none⟩ = some v5 := by
  obtain ⟨⟨_, h1⟩, k0, k1, k2, k3, k4, k5⟩ := h
  have hl : b < wa.heap.size := Nat.lt_of_lt_of_le hb h1.size
  exact ⟨⟨trivial, h1.trans (hx.mono h1.size)⟩, (hx.cell (p := ⟨b, _, none⟩) hl).trans k0, (hx.cell (p := ⟨b, _, none⟩) hl).trans k1, (hx.cell (p := ⟨b, _, none⟩) hl).trans k2, (hx.cell (p := ⟨b, _, none⟩) hl).trans k3, (hx.cell (p := ⟨b, _, none⟩) hl).trans k4, (hx.cell (p := ⟨b, _, none⟩) hl).trans k5⟩

end Go.Proofs.YtmfadjdpbobfhaaDoor
