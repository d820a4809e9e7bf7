/- Drawn visits: one of some texts, a visit, a row of visits. -/
import Derived.Test.YtjeklbhdngkngaaDrw
import Derived.Test.YtjeklbhdngkngaaMv
namespace Go.Proofs.Ytjeklbhdngkngaa
open Go.RowKit
set_option linter.unusedVariables false

/-- a row as the reference draws it -/
structure DrwV (xs : List DVisit) : Prop where
  ok : ∀ x ∈ xs, x.ok
  one : ∀ x ∈ xs, visitD x = true
  who : ∀ x ∈ xs, x.fWho.size ≤ 4
  up : UpK DVisit.fDay xs
  len : xs.length ≤ 9

theorem own_side {w w' : World} {B K g n c m a b : Nat} {T : TypeId} {l : List Value} (h : w.ownsRow B T K (.slice (some ⟨g, 0, none⟩) n c) m l) (hb : Chg a b w w') (hg : g < a ∨ b ≤ g) : w'.ownsRow B T K (.slice (some ⟨g, 0, none⟩) n c) m l := by
  have hlt := (h.lt g rfl).2
  refine ⟨h.1, ?_⟩
  rcases h.2 with ⟨h0, _⟩ | ⟨g', cap, cur, he, h1, h2, h3⟩
  · cases h0
  · injection he with e1 e2 e3
    injection e1 with e1
    injection e1 with e1
    subst e1
    exact .inr ⟨g, cap, cur, by rw [e2, e3], h1, by rw [hb.block g hlt hg]; exact h2, h3⟩

theorem Chg.storeNew {l h : Nat} {w w' : World} (q : Chg l h w w') {p : Addr} (u : Value) (hp : w.heap.size ≤ p.block) : Chg l h w (w'.setCell p u) :=
  ⟨q.os, q.tape, q.output, by simp; exact q.size, fun k hk hl => (heap_setCell_other w' p k u (by omega)).trans (q.block k hk hl)⟩
theorem SrcB.store {w0 : World} {b : Nat} {V : Value} {u : Nat} {w : World} (h : SrcB w0 b V u w) {p : Addr} (v : Value) (h1 : w0.heap.size ≤ p.block) (h2 : p.block < b ∨ b < p.block) : SrcB w0 b V u (w.setCell p v) := by
  obtain ⟨n, s, hn, ho⟩ := h.own
  exact ⟨h.below.setCell h1 v, h.lo, n, s, hn, own_side (a := p.block) (b := p.block + 1) ho ((Chg.refl _ _ w).setCell v (Nat.le_refl _) (Nat.lt_succ_self _)) (by omega)⟩

set_option maxHeartbeats 1600000 in
set_option maxRecDepth 100000 in
/-- one of some texts -/
theorem text_ok (w0 : World) (b : Nat) (A : Option Addr) (c : Nat) (ns : List Int) (u : Nat) (bs : List ByteArray) (m : Nat) (hbl : bs.length = m) (g B : Nat) (w : World) (hs : SrcB w0 b (.slice A ns.length c) u w) (hA : BytesAt w0 A ns) (hB : ByteIn ns) (hl : ns.length ≤ 1048576) (hu : u ≤ 90000) (hm : 1 < m) (hm2 : m ≤ 60000)
    (ho : w.ownsRow B 9 1 (.slice (some ⟨g, 0, none⟩) m m) m (bs.map Value.string)) (hg : g < b ∨ b < g) :
    Calls Try.prog 167 #[.pointer (some ⟨b, 0, none⟩), .slice (some ⟨g, 0, none⟩) m m] w fun e w' => ∃ z, z ∈ bs ∧ e = .returned (.string z) ∧ SrcB w0 b (.slice A ns.length c) (u + 2) w' ∧ Chg b (b + 1) w w' := by
  have HS := hid hs
  have HA := hid hA
  have HB := hid hB
  have HO := hid ho
  have HG := hid (show g < b ∨ b + 1 ≤ g by omega)
  clear hs hA hB ho hg
  go_enter Try.func167, Try.ntmps167
  go_wp2_with fail
  refine (pick_ok w0 b A c ns u m _ HS.out HA.out HB.out hl hu (by omega) (by omega)).mono ?_
  rintro e w1 ⟨r, rfl, ⟨r0, r1⟩, hs1, hc1⟩
  have S1 := hid hs1
  have C1 := hid hc1
  have O1 := hid (own_side HO.out hc1 HG.out)
  clear hs1 hc1
  obtain ⟨k, rfl⟩ : ∃ k : Nat, r = (k : Int) := ⟨r.toNat, by omega⟩
  have hk : k < bs.length := by omega
  have hc : w1.cell? ⟨g, k, none⟩ = some (.string bs[k]) := by
    rw [O1.out.cellAt k (by omega)]
    simp [hk]
  go_wp2_with fail
  go_ret
  exact ⟨_, List.getElem_mem hk, rfl, S1.out, C1.out⟩

def fourB : List ByteArray := [⟨#[97, 100, 97]⟩, ⟨#[98, 101, 110]⟩, ⟨#[99, 108, 101, 111]⟩, ⟨#[100, 111, 118]⟩]
theorem fourB_ok : ∀ z ∈ fourB, nameB z = true ∧ z.size ≤ 4 := by
  intro z hz
  simp only [fourB, List.mem_cons, List.not_mem_nil, or_false] at hz
  rcases hz with rfl | rfl | rfl | rfl <;> decide

set_option maxHeartbeats 1600000 in
set_option maxRecDepth 100000 in
theorem drawOne_ok (w0 : World) (b : Nat) (A : Option Addr) (c : Nat) (ns : List Int) (u : Nat) (day : Int) (w : World) (hs : SrcB w0 b (.slice A ns.length c) u w) (hA : BytesAt w0 A ns) (hB : ByteIn ns) (hl : ns.length ≤ 1048576) (hu : u ≤ 80000) (hd : 0 ≤ day ∧ day ≤ 100000) :
    Calls Try.prog 142 #[.pointer (some ⟨b, 0, none⟩), .int .i64 day] w fun e w' => ∃ x : DVisit, (e = .returned (.agg #[.int .i64 x.fDay, .string x.fWho, .int .i64 x.fKind, .int .i64 x.fAmount]) ∧ x.fDay = day ∧ visitD x = true ∧ x.fWho.size ≤ 4 ∧ x.ok) ∧ SrcB w0 b (.slice A ns.length c) (u + 10) w' ∧ Chg b (b + 1) w w' := by
  have HA := hid hA
  have HB := hid hB
  have hbw := hs.lt
  have h1 := hs.next (below_alloc w (.cells #[.int .i64 0, .string ⟨#[]⟩, .int .i64 0, .int .i64 0] 76))
  have S1 := hid (h1.next (below_alloc _ (.cells #[.string ⟨#[97, 100, 97]⟩, .string ⟨#[98, 101, 110]⟩, .string ⟨#[99, 108, 101, 111]⟩, .string ⟨#[100, 111, 118]⟩] 9)))
  have O1 := hid (show ((w.alloc (.cells #[.int .i64 0, .string ⟨#[]⟩, .int .i64 0, .int .i64 0] 76)).alloc (.cells #[.string ⟨#[97, 100, 97]⟩, .string ⟨#[98, 101, 110]⟩, .string ⟨#[99, 108, 101, 111]⟩, .string ⟨#[100, 111, 118]⟩] 9)).ownsRow 0 9 1 (.slice (some ⟨w.heap.size + 1, 0, none⟩) 4 4) 4 (fourB.map Value.string) from by
    have h9 := World.ownsRow_lit (base := 0) (e := 9) (size := 1) (w.alloc (.cells #[.int .i64 0, .string ⟨#[]⟩, .int .i64 0, .int .i64 0] 76)) #[.string ⟨#[97, 100, 97]⟩, .string ⟨#[98, 101, 110]⟩, .string ⟨#[99, 108, 101, 111]⟩, .string ⟨#[100, 111, 118]⟩] 4 (Nat.zero_le _) (by unfold maxLen; omega) rfl
    rw [show (w.alloc (.cells #[.int .i64 0, .string ⟨#[]⟩, .int .i64 0, .int .i64 0] 76)).heap.size = w.heap.size + 1 by simp] at h9
    exact h9)
  have C1 := hid ((Chg.of_below (l := b) (h := b + 1) (below_alloc w (.cells #[.int .i64 0, .string ⟨#[]⟩, .int .i64 0, .int .i64 0] 76))).then_below (below_alloc _ (.cells #[.string ⟨#[97, 100, 97]⟩, .string ⟨#[98, 101, 110]⟩, .string ⟨#[99, 108, 101, 111]⟩, .string ⟨#[100, 111, 118]⟩] 9)))
  have R1 := hid ((World.ownsRow_lit (base := 0) (e := 76) (size := 4) w #[.int .i64 0, .string ⟨#[]⟩, .int .i64 0, .int .i64 0] 1 (Nat.zero_le _) (by unfold maxLen; omega) rfl).alloc (.cells #[.string ⟨#[97, 100, 97]⟩, .string ⟨#[98, 101, 110]⟩, .string ⟨#[99, 108, 101, 111]⟩, .string ⟨#[100, 111, 118]⟩] 9))
  have HBW := hid (show w.heap.size < b ∨ b + 1 ≤ w.heap.size from .inr hbw)
  obtain ⟨d0, d1⟩ := hd
  clear hA hB hs h1
  go_enter Try.func142, Try.ntmps142
  go_wp2_with fail
  refine (text_ok w0 b A c ns u fourB 4 rfl _ 0 _ S1.out HA.out HB.out hl (by omega) (by decide) (by decide) O1.out (.inr (by omega))).mono ?_
  rintro e w1 ⟨z, hz, rfl, hs1, hc1⟩
  have hzz := fourB_ok z hz
  have S2 := hid hs1
  have z1 : w.heap.size + 2 ≤ w1.heap.size := by have h := hc1.size; simp at h; omega
  have R2 := hid (own_side R1.out hc1 HBW.out)
  have C2 := hid (C1.out.trans hc1)
  clear hs1 hc1 hz
  go_wp2_with fail
  refine (pick_ok w0 b A c ns (u + 2) 4 _ S2.out HA.out HB.out hl (by omega) (by omega) (by omega)).mono ?_
  rintro e w2 ⟨r, rfl, ⟨r0, r1⟩, hs2, hc2⟩
  have S3 := hid hs2
  have z2 : w1.heap.size ≤ w2.heap.size := hc2.size
  have R3 := hid ((own_side R2.out hc2 HBW.out).alloc (.cells #[.int .i64 day, .string z, .int .i64 (1 + r), .int .i64 0] 76))
  have X3 := hid (World.ownsRow_lit (base := 0) (e := 76) (size := 4) w2 #[.int .i64 day, .string z, .int .i64 (1 + r), .int .i64 0] 1 (Nat.zero_le _) (by unfold maxLen; omega) rfl)
  have C3 := hid (C2.out.trans hc2)
  clear hs2 hc2
  have S4 := hid (S3.out.next (below_alloc w2 (.cells #[.int .i64 day, .string z, .int .i64 (1 + r), .int .i64 0] 76)))
  have C4 := hid (C3.out.then_below (below_alloc w2 (.cells #[.int .i64 day, .string z, .int .i64 (1 + r), .int .i64 0] 76)))
  have hlt2 : w.heap.size + 2 ≤ w2.heap.size := by omega
  go_wp2_with fail
  refine (pick_ok w0 b A c ns (u + 2 + 2) 60 _ S4.out HA.out HB.out hl (by omega) (by omega) (by omega)).mono ?_
  rintro e w3 ⟨r2, rfl, ⟨r20, r21⟩, hs3, hc3⟩
  have S5 := hid (hs3.more (show u + 2 + 2 + 2 ≤ u + 10 by omega))
  have R5 := hid (own_side R3.out hc3 HBW.out)
  have X5 := hid (own_side X3.out hc3 (.inr (by omega)))
  have C5 := hid (C4.out.trans hc3)
  have c0 := R5.out.cellAt 0 (by omega)
  have c1 := R5.out.cellAt 1 (by omega)
  have c2 := R5.out.cellAt 2 (by omega)
  have c3 := R5.out.cellAt 3 (by omega)
  have f0 := R5.out.frozenAt 0
  have f1 := R5.out.frozenAt 1
  have f2 := R5.out.frozenAt 2
  have f3 := R5.out.frozenAt 3
  have x0 := X5.out.cellAt 0 (by omega)
  have x1 := X5.out.cellAt 1 (by omega)
  have x2 := X5.out.cellAt 2 (by omega)
  have x3 := X5.out.cellAt 3 (by omega)
  have y3 := X5.out.frozenAt 3
  simp only [List.getElem?_cons_zero, List.getElem?_cons_succ] at c0 c1 c2 c3 x0 x1 x2 x3
  have hne1 : ¬ w.heap.size = w2.heap.size := by omega
  have hne2 : ¬ w2.heap.size = w.heap.size := by omega
  clear hs3 hc3
  have hv : visitD ⟨day, z, 1 + r, 100 * r2⟩ = true := by
    simp only [visitD, visitB, Bool.and_eq_true, inB_iff]
    exact ⟨⟨d0, d1⟩, hzz.1, ⟨by omega, by omega⟩, by omega, by omega⟩
  have HV := hid hv
  have HZ := hid hzz
  have hlo := S5.out.lo
  clear hv hzz
  go_wp2_with fail
  refine bodyPost_ret (v := .agg #[.int .i64 day, .string z, .int .i64 (1 + r), .int .i64 (100 * r2)]) (by simp [results, Try.results142, go_sem, c0, c1, c2, c3]) rfl ?_
  refine ⟨⟨day, z, 1 + r, 100 * r2⟩, ⟨rfl, rfl, HV.out, HZ.out.2, by have := HZ.out.2; show z.size ≤ 9223372036854775807; omega⟩, ?_, ?_⟩
  · exact ((((S5.out.store (p := ⟨w2.heap.size, 3, none⟩) _ (by show _ ≤ w2.heap.size; omega) (.inr (by show b < w2.heap.size; omega))).store (p := ⟨w.heap.size, 0, none⟩) _ (by show _ ≤ w.heap.size; omega) (.inr hbw)).store (p := ⟨w.heap.size, 1, none⟩) _ (by show _ ≤ w.heap.size; omega) (.inr hbw)).store (p := ⟨w.heap.size, 2, none⟩) _ (by show _ ≤ w.heap.size; omega) (.inr hbw)).store (p := ⟨w.heap.size, 3, none⟩) _ (by show _ ≤ w.heap.size; omega) (.inr hbw)
  · exact ((((C5.out.storeNew (p := ⟨w2.heap.size, 3, none⟩) _ (by show _ ≤ w2.heap.size; omega)).storeNew (p := ⟨w.heap.size, 0, none⟩) _ (Nat.le_refl _)).storeNew (p := ⟨w.heap.size, 1, none⟩) _ (Nat.le_refl _)).storeNew (p := ⟨w.heap.size, 2, none⟩) _ (Nat.le_refl _)).storeNew (p := ⟨w.heap.size, 3, none⟩) _ (Nat.le_refl _)

theorem SrcB.under {w0 : World} {b M : Nat} {V : Value} {u : Nat} {w w' : World} (h : SrcB w0 b V u w) (hb : Below M w w') (hM : b < M) : SrcB w0 b V u w' := by
  obtain ⟨n, s, hn, ho⟩ := h.own
  refine ⟨h.below.trans (hb.mono (by have := h.lo; omega)), h.lo, n, s, hn, ho.1, ?_⟩
  rcases ho.2 with ⟨h0, _⟩ | ⟨g', cap, cur, he, h1, h2, h3⟩
  · cases h0
  · injection he with e1 e2 e3
    injection e1 with e1
    injection e1 with e1
    subst e1
    exact .inr ⟨b, cap, cur, by rw [e3], h1, by rw [hb.block b hM]; exact h2, h3⟩
/-- a row of drawn visits, none behind a day -/
structure DrwTo (xs : List DVisit) (d : Int) : Prop where
  ok : ∀ x ∈ xs, x.ok
  one : ∀ x ∈ xs, visitD x = true
  who : ∀ x ∈ xs, x.fWho.size ≤ 4
  up : UpK DVisit.fDay xs
  last : ∀ x ∈ xs, x.fDay ≤ d
theorem DrwTo.nil (d : Int) : DrwTo [] d := ⟨fun _ h => absurd h (by simp), fun _ h => absurd h (by simp), fun _ h => absurd h (by simp), UpK.nil _, fun _ h => absurd h (by simp)⟩
theorem DrwTo.add {xs : List DVisit} {d r : Int} {x : DVisit} (h : DrwTo xs d) (h1 : x.fDay = d) (h2 : visitD x = true) (h3 : x.fWho.size ≤ 4) (h4 : x.ok) (hr : 0 ≤ r) : DrwTo (xs ++ [x]) (d + r) := by
  have hm : ∀ {y : DVisit}, y ∈ xs ++ [x] → y ∈ xs ∨ y = x := fun {y} hy => by simpa using hy
  refine ⟨fun y hy => ?_, fun y hy => ?_, fun y hy => ?_, UpK.app h.up (UpK.one _ _) (fun y hy z hz => ?_), fun y hy => ?_⟩
  · rcases hm hy with h5 | rfl
    · exact h.ok y h5
    · exact h4
  · rcases hm hy with h5 | rfl
    · exact h.one y h5
    · exact h2
  · rcases hm hy with h5 | rfl
    · exact h.who y h5
    · exact h3
  · have e : z = x := by simpa using hz
    rw [e, h1]
    exact h.last y hy
  · rcases hm hy with h5 | rfl
    · have := h.last y h5
      omega
    · omega

/-- the loop's state -/
def DrwL (w0 w : World) (b n : Nat) (V : Value) (o d k : Value) (wr : World) : Prop :=
  ∃ (xs : List DVisit) (g cc : Nat) (kv dv : Int), o = .slice (some ⟨g, 0, none⟩) xs.length cc ∧ d = .int .i64 dv ∧ k = .int .i64 kv ∧ (kv + (xs.length : Int) = (n : Int) ∧ 0 ≤ kv) ∧ (0 ≤ dv ∧ dv ≤ 60 + 30 * (xs.length : Int)) ∧ DrwTo xs dv ∧ wr.ownsRow w.heap.size 76 4 (.slice (some ⟨g, 0, none⟩) xs.length cc) xs.length (xs.map DVisit.cells).flatten ∧ SrcB w0 b V (10 + 14 * xs.length) wr

set_option maxHeartbeats 1600000 in
set_option maxRecDepth 100000 in
theorem l22Draw_ok (w0 : World) (b : Nat) (A : Option Addr) (c : Nat) (ns : List Int) (w : World) (hs : SrcB w0 b (.slice A ns.length c) 0 w) (hA : BytesAt w0 A ns) (hB : ByteIn ns) (hl : ns.length ≤ 1048576) :
    Calls Try.prog 109 #[.pointer (some ⟨b, 0, none⟩)] w fun e w' => ∃ (xs : List DVisit) (g cc : Nat), e = .returned (.slice (some ⟨g, 0, none⟩) xs.length cc) ∧ DrwV xs ∧ w'.ownsRow w.heap.size 76 4 (.slice (some ⟨g, 0, none⟩) xs.length cc) xs.length (xs.map DVisit.cells).flatten ∧ Below w0.heap.size w0 w' := by
  have HA := hid hA
  have HB := hid hB
  have hbw := hs.lt
  have S0 := hid (hs.next (below_alloc w (.cells #[] 76)))
  have O0 := hid (World.ownsRow_lit (base := w.heap.size) (e := 76) (size := 4) w #[] 0 (Nat.le_refl _) (by unfold maxLen; omega) rfl)
  clear hA hB hs
  go_enter Try.func109, Try.ntmps109
  go_wp2_with fail
  refine (pick_ok w0 b A c ns 0 60 _ S0.out HA.out HB.out hl (by omega) (by omega) (by omega)).mono ?_
  rintro e w1 ⟨r1, rfl, ⟨r10, r11⟩, hs1, hc1⟩
  have S1 := hid hs1
  have O1 := hid (own_side O0.out hc1 (.inr hbw))
  clear hs1 hc1
  go_wp2_with fail
  refine (pick_ok w0 b A c ns (0 + 2) 10 _ S1.out HA.out HB.out hl (by omega) (by omega) (by omega)).mono ?_
  rintro e w2 ⟨r2, rfl, ⟨r20, r21⟩, hs2, hc2⟩
  have S2 := hid (hs2.more (show 0 + 2 + 2 ≤ 10 by omega))
  have O2 := hid (own_side O1.out hc2 (.inr hbw))
  obtain ⟨n, hn⟩ : ∃ n : Nat, r2 = (n : Int) := ⟨r2.toNat, by omega⟩
  subst hn
  have hn9 : n ≤ 9 := by omega
  clear hs2 hc2
  go_wp2_with fail
  go_loopw [3, 4, 5] (DrwL w0 w b n (.slice A ns.length c)) (fun _ _ k _ => (intOf k).toNat)
  case atStart => exact ⟨[], _, _, _, _, rfl, rfl, rfl, ⟨by simp, by omega⟩, ⟨by omega, by simp; omega⟩, DrwTo.nil _, O2.out, S2.out⟩
  case round =>
    obtain ⟨xs, g, cc, kv, dv, rfl, rfl, rfl, ⟨hk1, hk2⟩, ⟨hd1, hd2⟩, hto, hown, hsr⟩ := hrel
    have T := hid hto
    have O := hid hown
    have SR := hid hsr
    have HK := hid hk1
    have HD2 := hid hd2
    have hx9 : xs.length ≤ 9 := by omega
    have hkv : kv ≤ 9 := by omega
    have hg := (hown.lt g rfl).1
    have hgb : b + 1 ≤ g := by omega
    have hd3 : dv ≤ 400 := by omega
    clear hto hown hsr hk1 hd2
    by_cases h0 : 0 < kv
    · go_wp2_with fail
      refine (drawOne_ok w0 b A c ns (10 + 14 * xs.length) dv _ SR.out HA.out HB.out hl (by omega) ⟨hd1, by omega⟩).mono ?_
      rintro e w3 ⟨x, ⟨rfl, hx1, hx2, hx3, hx4⟩, hs3, hc3⟩
      have S3 := hid hs3
      have O3 := hid (own_side O.out hc3 (.inr hgb))
      have TX := hid (show ∀ r, 0 ≤ r → DrwTo (xs ++ [x]) (dv + r) from fun r hr => T.out.add hx1 hx2 hx3 hx4 hr)
      have hw3 : w.heap.size ≤ w3.heap.size := by have := (O3.out.lt g rfl).2; omega
      have HXL := hid (show (xs ++ [x]).length = xs.length + 1 by simp)
      have HXF := hid (show (xs.map DVisit.cells).flatten ++ [.int .i64 x.fDay, .string x.fWho, .int .i64 x.fKind, .int .i64 x.fAmount] = ((xs ++ [x]).map DVisit.cells).flatten by simp [DVisit.cells])
      clear hs3 hc3 hx1 hx2 hx3 hx4
      go_wp2_with (at_builtin; refine wpList_app (w0 := w3) rfl (.tmp 15) (.tmp 19) 50 rfl w.heap.size 76 (.agg #[.int .i64 0, .string ⟨#[]⟩, .int .i64 0, .int .i64 0]) 4 40 Try.underlying50 infoVisit rfl (by decide) _ _ _ rfl O3.out #[.int .i64 x.fDay, .string x.fWho, .int .i64 x.fKind, .int .i64 x.fAmount] 1 1 (by first | (simp [Act.eval]; done) | rfl) rfl (by simp [Value.oneCell']) (by omega) hw3 (Below.refl _ _) ?_; intro v1 w4 hown1 hbel1 hz1 _; obtain ⟨g4, c4, rfl, hf4⟩ := own_form hown1 (by omega); have O4 := hid hown1; have S4 := hid (S3.out.under hbel1 hbw); clear hown1 hbel1 hz1 hf4)
      refine (pick_ok w0 b A c ns (10 + 14 * xs.length + 10) 30 _ S4.out HA.out HB.out hl (by omega) (by omega) (by omega)).mono ?_
      rintro e w5 ⟨r5, rfl, ⟨r50, r51⟩, hs5, hc5⟩
      have S5 := hid (hs5.more (show 10 + 14 * xs.length + 10 + 2 ≤ 10 + 14 * (xs.length + 1) by omega))
      have hg4 := (O4.out.lt g4 rfl).1
      have O5 := hid (own_side O4.out hc5 (.inr (show b + 1 ≤ g4 by omega)))
      clear hs5 hc5 hg4
      go_wp2_with fail
      go_roundw
      case rel =>
        refine ⟨xs ++ [x], g4, c4, kv - 1, dv + r5, by rw [HXL.out], rfl, rfl, ⟨?_, by omega⟩, ⟨by omega, ?_⟩, TX.out _ r50, ?_, ?_⟩
        · rw [HXL.out]; have := HK.out; omega
        · rw [HXL.out]; have := HD2.out; omega
        · rw [← HXF.out, HXL.out]; exact O5.out
        · rw [HXL.out]; exact S5.out
      case measure => simp [intOf]; omega
    · go_wp2_with fail
      go_ret
      exact ⟨xs, g, cc, rfl, ⟨T.out.ok, T.out.one, T.out.who, T.out.up, by have := HK.out; omega⟩, O.out, SR.out.below⟩

set_option maxHeartbeats 1600000 in
set_option maxRecDepth 100000 in
theorem r8Visits_ok (A : Option Addr) (c : Nat) (ns : List Int) (w : World) (hA : BytesAt w A ns) (hB : ByteIn ns) (hl : ns.length ≤ 1048576) :
    Calls Try.prog 43 #[.slice A ns.length c] w fun e w' => ∃ (xs : List DVisit) (g cc : Nat), e = .returned (.slice (some ⟨g, 0, none⟩) xs.length cc) ∧ DrwV xs ∧ w'.ownsRow w.heap.size 76 4 (.slice (some ⟨g, 0, none⟩) xs.length cc) xs.length (xs.map DVisit.cells).flatten ∧ Below w.heap.size w w' := by
  have HA := hid hA
  have HB := hid hB
  clear hA hB
  go_enter Try.func43, Try.ntmps43
  go_wp2_with fail
  refine (from_ok A c ns w).mono ?_
  rintro e w1 ⟨b, rfl, hb, hs1⟩
  have S1 := hid hs1
  have hw1 := hs1.below.size
  clear hs1 hb
  go_wp2_with fail
  refine (l22Draw_ok w b A c ns w1 S1.out HA.out HB.out hl).mono ?_
  rintro e w2 ⟨xs, g, cc, rfl, hd, ho, hb⟩
  have D := hid hd
  have O := hid (own_mono ho hw1)
  have B := hid hb
  clear hd ho hb
  go_wp2_with fail
  go_ret
  exact ⟨xs, g, cc, rfl, D.out, O.out, B.out⟩

end Go.Proofs.Ytjeklbhdngkngaa
