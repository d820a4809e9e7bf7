/- FnBows: bows as the reference draws them. -/
import Derived.Test.YtmfadjdpbobfhaaDoorBowE
import Derived.Test.YtmfadjdpbobfhaaDoorDrw
namespace Go.Proofs.YtmfadjdpbobfhaaDoor
open Go.RowKit
set_option linter.unusedVariables false

theorem own_side {w w' : World} {B K g n c m a b : Nat} {T : TypeId} {l : List Value} (h : w.ownsRow B T K (.slice (some ⟨g, 0, none⟩) n c) m l) (hb : Chg a b w w') (hg : g < a ∨ b ≤ g) : w'.ownsRow B T K (.slice (some ⟨g, 0, none⟩) n c) m l := by
  have hlt := (h.lt g rfl).2
  refine ⟨h.1, ?_⟩
  rcases h.2 with ⟨h0, _⟩ | ⟨g', cap, cur, he, h1, h2, h3⟩
  · cases h0
  · injection he with e1 e2 e3
    injection e1 with e1
    injection e1 with e1
    subst e1
    exact .inr ⟨g, cap, cur, by rw [e2, e3], h1, by rw [hb.block g hlt hg]; exact h2, h3⟩
theorem Chg.storeNew {l h : Nat} {w w' : World} (q : Chg l h w w') {p : Addr} (u : Value) (hp : w.heap.size ≤ p.block) : Chg l h w (w'.setCell p u) :=
  ⟨q.os, q.tape, q.output, by simp; exact q.size, fun k hk hl => (heap_setCell_other w' p k u (by omega)).trans (q.block k hk hl)⟩
theorem SrcB.store {w0 : World} {b : Nat} {V : Value} {u : Nat} {w : World} (h : SrcB w0 b V u w) {p : Addr} (v : Value) (h1 : w0.heap.size ≤ p.block) (h2 : p.block < b ∨ b < p.block) : SrcB w0 b V u (w.setCell p v) := by
  obtain ⟨n, s, hn, ho⟩ := h.own
  exact ⟨h.below.setCell h1 v, h.lo, n, s, hn, own_side (a := p.block) (b := p.block + 1) ho ((Chg.refl _ _ w).setCell v (Nat.le_refl _) (Nat.lt_succ_self _)) (by omega)⟩
theorem SrcB.under {w0 : World} {b M : Nat} {V : Value} {u : Nat} {w w' : World} (h : SrcB w0 b V u w) (hb : Below M w w') (hM : b < M) : SrcB w0 b V u w' := by
  obtain ⟨n, s, hn, ho⟩ := h.own
  refine ⟨h.below.trans (hb.mono (by have := h.lo; omega)), h.lo, n, s, hn, ho.1, ?_⟩
  rcases ho.2 with ⟨h0, _⟩ | ⟨g', cap, cur, he, h1, h2, h3⟩
  · cases h0
  · injection he with e1 e2 e3
    injection e1 with e1
    injection e1 with e1
    subst e1
    exact .inr ⟨b, cap, cur, by rw [e3], h1, by rw [hb.block b hM]; exact h2, h3⟩
theorem own_under {w w' : World} {B K g n c m M : Nat} {T : TypeId} {l : List Value} (h : w.ownsRow B T K (.slice (some ⟨g, 0, none⟩) n c) m l) (hb : Below M w w') (hM : g < M) : w'.ownsRow B T K (.slice (some ⟨g, 0, none⟩) n c) m l := by
  refine ⟨h.1, ?_⟩
  rcases h.2 with ⟨h0, _⟩ | ⟨g', cap, cur, he, h1, h2, h3⟩
  · cases h0
  · injection he with e1 e2 e3
    injection e1 with e1
    injection e1 with e1
    subst e1
    exact .inr ⟨g, cap, cur, by rw [e2, e3], h1, by rw [hb.block g hM]; exact h2, h3⟩
theorem own_capB {w : World} {B : Nat} {e : TypeId} {size g n c : Nat} {xs : List Value} (h : w.ownsRow B e size (.slice (some ⟨g, 0, none⟩) n c) n xs) : n ≤ c ∧ c ≤ maxLen := by
  rcases h.2 with ⟨h1, h2⟩ | ⟨g', cap, cur, hv, hb, hh, hc, hm, _⟩
  · cases h1
  · injection hv with _ _ hcap
    subst hcap
    exact ⟨hc, hm⟩
def sixB : List ByteArray := [⟨#[98, 117, 116, 116, 111, 110]⟩, ⟨#[102, 114, 111, 103]⟩, ⟨#[104, 97, 105, 114]⟩, ⟨#[104, 101, 97, 100]⟩, ⟨#[115, 116, 105, 99, 107]⟩, ⟨#[119, 114, 97, 112]⟩]
theorem six_up : ∀ i : Nat, i < 6 → ∀ j : Nat, j < 6 → i < j → ∀ a b, sixB[i]? = some a → sixB[j]? = some b → Op.bytesLess a.toList b.toList = true := by
  intro i hi j hj hij a b ha hb
  rcases (show i = 0 ∨ i = 1 ∨ i = 2 ∨ i = 3 ∨ i = 4 ∨ i = 5 by omega) with rfl | rfl | rfl | rfl | rfl | rfl <;> rcases (show j = 0 ∨ j = 1 ∨ j = 2 ∨ j = 3 ∨ j = 4 ∨ j = 5 by omega) with rfl | rfl | rfl | rfl | rfl | rfl <;> first | (exfalso; omega) | (have ha' := Option.some.inj ha; have hb' := Option.some.inj hb; subst ha' hb'; rw [Lib.toList_data, Lib.toList_data]; first | decide | simp [Op.bytesLess])
theorem six_ok : ∀ i : Nat, i < 6 → ∀ a, sixB[i]? = some a → nameB a = true ∧ a.size ≤ 10 := by
  intro i hi a ha
  rcases (show i = 0 ∨ i = 1 ∨ i = 2 ∨ i = 3 ∨ i = 4 ∨ i = 5 by omega) with rfl | rfl | rfl | rfl | rfl | rfl <;> (have ha' := Option.some.inj ha; subst ha'; decide)
/-- a bow out of the first k names -/
structure BowTo (xs : List DPart) (k : Nat) : Prop where
  one : ∀ x ∈ xs, PartS x
  nm : ∀ x ∈ xs, ∃ i, i < k ∧ sixB[i]? = some x.fId
  up : ∀ (i j : Nat) (x y : DPart), xs[i]? = some x → xs[j]? = some y → i < j → Op.bytesLess x.fId.toList y.fId.toList = true
  len : xs.length ≤ k
theorem BowTo.nil : BowTo [] 0 := ⟨fun _ h => (by cases h), fun _ h => (by cases h), fun _ _ _ _ h => (by simp at h), Nat.le_refl _⟩
theorem BowTo.skip {xs : List DPart} {k : Nat} (h : BowTo xs k) : BowTo xs (k + 1) := ⟨h.one, fun x hx => by obtain ⟨i, h1, h2⟩ := h.nm x hx; exact ⟨i, by omega, h2⟩, h.up, by have := h.len; omega⟩
theorem BowTo.add {xs : List DPart} {k : Nat} {x : DPart} (h : BowTo xs k) (hk : k < 6) (hx : PartS x) (hn : sixB[k]? = some x.fId) : BowTo (xs ++ [x]) (k + 1) := by
  refine ⟨fun y hy => ?_, fun y hy => ?_, fun i j y z hy hz hij => ?_, by rw [List.length_append, List.length_singleton]; have := h.len; omega⟩
  · rcases List.mem_append.1 hy with h1 | h1
    · exact h.one y h1
    · rw [List.mem_singleton.1 h1]; exact hx
  · rcases List.mem_append.1 hy with h1 | h1
    · obtain ⟨i, h2, h3⟩ := h.nm y h1
      exact ⟨i, by omega, h3⟩
    · rw [List.mem_singleton.1 h1]; exact ⟨k, by omega, hn⟩
  · have hjl := (List.getElem?_eq_some_iff.1 hz).1
    rw [List.length_append, List.length_singleton] at hjl
    rw [List.getElem?_append_left (by omega)] at hy
    rcases Nat.lt_or_ge j xs.length with h1 | h1
    · rw [List.getElem?_append_left h1] at hz
      exact h.up i j y z hy hz hij
    · rw [List.getElem?_append_right h1, show j - xs.length = 0 by omega] at hz
      have e := (Option.some.inj hz).symm
      subst e
      obtain ⟨p, hp, hpn⟩ := h.nm y (List.mem_of_getElem? hy)
      exact six_up p (by omega) k hk hp _ _ hpn hn
theorem BowTo.fin {xs : List DPart} (h : BowTo xs 6) (h0 : xs ≠ []) : DrwB xs := ⟨h.one, h.up, List.length_pos_iff.2 h0, h.len⟩
def stickP : DPart := ⟨⟨#[115, 116, 105, 99, 107]⟩, 350, 40000⟩
theorem stick_ok : DrwB [stickP] := by
  refine ⟨fun x hx => ?_, fun i j x y hx hy hij => ?_, by simp, by simp⟩
  · rw [List.mem_singleton.1 hx]
    exact ⟨by decide, by decide, by decide, by decide, by decide, by decide⟩
  · have h1 := (List.getElem?_eq_some_iff.1 hx).1
    have h2 := (List.getElem?_eq_some_iff.1 hy).1
    simp at h1 h2
    omega

set_option maxHeartbeats 1600000 in
set_option maxRecDepth 100000 in
theorem l11DrawOne_ok (w0 : World) (b : Nat) (A : Option Addr) (c : Nat) (ns : List Int) (u : Nat) (id : ByteArray) (w : World) (hs : SrcB w0 b (.slice A ns.length c) u w) (hA : BytesAt w0 A ns) (hB : ByteIn ns) (hl : ns.length ≤ 1048576) (hu : u ≤ 80000) (hid1 : nameB id = true) (hid2 : id.size ≤ 10) :
    Calls Tryd.prog 135 #[.pointer (some ⟨b, 0, none⟩), .string id] w fun e w' => ∃ x : DPart, (e = .returned (.agg #[.string x.fId, .int .i64 x.fAt, .int .i64 x.fMass]) ∧ x.fId = id ∧ PartS x) ∧ SrcB w0 b (.slice A ns.length c) (u + 4) w' ∧ Chg b (b + 1) w w' := by
  have HA := hid hA
  have HB := hid hB
  have HI1 := hid hid1
  have HI2 := hid hid2
  have hbw := hs.lt
  have S1 := hid (hs.next (below_alloc w (.cells #[.string ⟨#[]⟩, .int .i64 0, .int .i64 0] 39)))
  have C1 := hid (Chg.of_below (l := b) (h := b + 1) (below_alloc w (.cells #[.string ⟨#[]⟩, .int .i64 0, .int .i64 0] 39)))
  have R1 := hid (World.ownsRow_lit (base := 0) (e := 39) (size := 3) w #[.string ⟨#[]⟩, .int .i64 0, .int .i64 0] 1 (Nat.zero_le _) (by unfold maxLen; omega) rfl)
  have HBW := hid (show w.heap.size < b ∨ b + 1 ≤ w.heap.size from .inr hbw)
  clear hA hB hs hid1 hid2
  go_enter Tryd.func135, Tryd.ntmps135
  go_wp2_with fail
  refine (pick_ok w0 b A c ns u 74 _ S1.out HA.out HB.out hl (by omega) (by omega) (by omega)).mono ?_
  rintro e w1 ⟨r, rfl, ⟨r0, r1⟩, hs1, hc1⟩
  have z1 : w.heap.size + 1 ≤ w1.heap.size := by have h := hc1.size; simp at h; omega
  have R2 := hid ((own_side R1.out hc1 HBW.out).alloc (.cells #[.string id, .int .i64 (10 * r), .int .i64 0] 39))
  have X2 := hid (World.ownsRow_lit (base := 0) (e := 39) (size := 3) w1 #[.string id, .int .i64 (10 * r), .int .i64 0] 1 (Nat.zero_le _) (by unfold maxLen; omega) rfl)
  have C2 := hid ((C1.out.trans hc1).then_below (below_alloc w1 (.cells #[.string id, .int .i64 (10 * r), .int .i64 0] 39)))
  have S2 := hid (hs1.next (below_alloc w1 (.cells #[.string id, .int .i64 (10 * r), .int .i64 0] 39)))
  have hbw1 := hs1.lt
  clear hs1 hc1
  have v1 : IntKind.i64.wrap (10 * r) = 10 * r := IntWalk.i64_in _ (by omega)
  go_wp2_with fail
  refine (pick_ok w0 b A c ns (u + 2) 300 _ S2.out HA.out HB.out hl (by omega) (by omega) (by omega)).mono ?_
  rintro e w3 ⟨r2, rfl, ⟨r20, r21⟩, hs3, hc3⟩
  have S5 := hid (hs3.more (show u + 2 + 2 ≤ u + 4 by omega))
  have R5 := hid (own_side R2.out hc3 HBW.out)
  have X5 := hid (own_side X2.out hc3 (.inr (by omega)))
  have C5 := hid (C2.out.trans hc3)
  have c0 := R5.out.cellAt 0 (by omega)
  have c1 := R5.out.cellAt 1 (by omega)
  have c2 := R5.out.cellAt 2 (by omega)
  have f0 := R5.out.frozenAt 0
  have f1 := R5.out.frozenAt 1
  have f2 := R5.out.frozenAt 2
  have x0 := X5.out.cellAt 0 (by omega)
  have x1 := X5.out.cellAt 1 (by omega)
  have x2 := X5.out.cellAt 2 (by omega)
  have y2 := X5.out.frozenAt 2
  simp only [List.getElem?_cons_zero, List.getElem?_cons_succ] at c0 c1 c2 x0 x1 x2
  have hne1 : ¬ w.heap.size = w1.heap.size := by omega
  have hne2 : ¬ w1.heap.size = w.heap.size := by omega
  have v2 : IntKind.i64.wrap (100 * r2) = 100 * r2 := IntWalk.i64_in _ (by omega)
  have v3 : IntKind.i64.wrap (100 + 100 * r2) = 100 + 100 * r2 := IntWalk.i64_in _ (by omega)
  have HP := hid (show PartS ⟨id, 10 * r, 100 + 100 * r2⟩ from ⟨HI1.out, HI2.out, by show 0 ≤ 10 * r; omega, by show 10 * r ≤ 800; omega, by show 1 ≤ 100 + 100 * r2; omega, by show 100 + 100 * r2 ≤ 40000; omega⟩)
  have hlo := S5.out.lo
  clear hs3 hc3 r0 r1 r20 r21
  go_wp2_with fail
  refine bodyPost_ret (v := .agg #[.string id, .int .i64 (10 * r), .int .i64 (100 + 100 * r2)]) (by simp [results, Tryd.results135, go_sem, c0, c1, c2]) rfl ?_
  refine ⟨⟨id, 10 * r, 100 + 100 * r2⟩, ⟨rfl, rfl, HP.out⟩, ?_, ?_⟩
  · exact (((S5.out.store (p := ⟨w1.heap.size, 2, none⟩) _ (by show _ ≤ w1.heap.size; omega) (.inr (by show b < w1.heap.size; omega))).store (p := ⟨w.heap.size, 0, none⟩) _ (by show _ ≤ w.heap.size; omega) (.inr hbw)).store (p := ⟨w.heap.size, 1, none⟩) _ (by show _ ≤ w.heap.size; omega) (.inr hbw)).store (p := ⟨w.heap.size, 2, none⟩) _ (by show _ ≤ w.heap.size; omega) (.inr hbw)
  · exact (((C5.out.storeNew (p := ⟨w1.heap.size, 2, none⟩) _ (by show _ ≤ w1.heap.size; omega)).storeNew (p := ⟨w.heap.size, 0, none⟩) _ (Nat.le_refl _)).storeNew (p := ⟨w.heap.size, 1, none⟩) _ (Nat.le_refl _)).storeNew (p := ⟨w.heap.size, 2, none⟩) _ (Nat.le_refl _)

/-- a drawn bow -/
def PostB (w0 : World) (e : Ending) (w' : World) : Prop := ∃ (xs : List DPart) (n g cc : Nat), xs.length = n ∧ e = .returned (.slice (some ⟨g, 0, none⟩) n cc) ∧ DrwB xs ∧ RowsAt w' 3 (some ⟨g, 0, none⟩) (xs.map DPart.cells) ∧ (n ≤ cc ∧ cc ≤ maxLen) ∧ Below w0.heap.size w0 w'
def BowL (w0 W0 : World) (b nb : Nat) (V : Value) (o k : Value) (wr : World) : Prop :=
  ∃ (xs : List DPart) (n g cc kv : Nat), xs.length = n ∧ o = .slice (some ⟨g, 0, none⟩) n cc ∧ k = .int .i64 (kv : Int) ∧ kv ≤ 6 ∧ BowTo xs kv ∧ wr.ownsRow W0.heap.size 39 3 (.slice (some ⟨g, 0, none⟩) n cc) n (partV xs) ∧ wr.ownsRow 0 9 1 (.slice (some ⟨nb, 0, none⟩) 6 6) 6 (sixB.map Value.string) ∧ SrcB w0 b V (6 * kv) wr

set_option maxHeartbeats 1600000 in
set_option maxRecDepth 100000 in
theorem l11Draw_ok (w0 : World) (b : Nat) (A : Option Addr) (c : Nat) (ns : List Int) (w : World) (hs : SrcB w0 b (.slice A ns.length c) 0 w) (hA : BytesAt w0 A ns) (hB : ByteIn ns) (hl : ns.length ≤ 1048576) :
    Calls Tryd.prog 84 #[.pointer (some ⟨b, 0, none⟩)] w (PostB w0) := by
  have HA := hid hA
  have HB := hid hB
  have hbw := hs.lt
  obtain ⟨W0, hW0⟩ : ∃ W0, W0 = w.alloc (.cells #[.string ⟨#[98, 117, 116, 116, 111, 110]⟩, .string ⟨#[102, 114, 111, 103]⟩, .string ⟨#[104, 97, 105, 114]⟩, .string ⟨#[104, 101, 97, 100]⟩, .string ⟨#[115, 116, 105, 99, 107]⟩, .string ⟨#[119, 114, 97, 112]⟩] 9) := ⟨_, rfl⟩
  obtain ⟨nb, hnb⟩ : ∃ nb, nb = w.heap.size := ⟨_, rfl⟩
  have HW0 := hid hW0
  have HNB := hid hnb
  have hz0 : W0.heap.size = nb + 1 := by rw [hW0, hnb]; simp
  have S1 := hid (show SrcB w0 b (.slice A ns.length c) 0 W0 by rw [hW0]; exact hs.next (below_alloc w _))
  have N1 := hid (show W0.ownsRow 0 9 1 (.slice (some ⟨nb, 0, none⟩) 6 6) 6 (sixB.map Value.string) by rw [hW0, hnb]; exact World.ownsRow_lit (base := 0) (e := 9) (size := 1) w #[.string ⟨#[98, 117, 116, 116, 111, 110]⟩, .string ⟨#[102, 114, 111, 103]⟩, .string ⟨#[104, 97, 105, 114]⟩, .string ⟨#[104, 101, 97, 100]⟩, .string ⟨#[115, 116, 105, 99, 107]⟩, .string ⟨#[119, 114, 97, 112]⟩] 6 (Nat.zero_le _) (by unfold maxLen; omega) rfl)
  have S2 := hid (S1.out.next (below_alloc W0 (.cells #[] 39)))
  have N2 := hid (own_below N1.out (below_alloc W0 (.cells #[] 39)))
  have hbn : b < nb := by omega
  clear hA hB hs hW0 hnb
  go_enter Tryd.func84, Tryd.ntmps84
  go_wp2_with fail
  rw [← HW0.out, ← HNB.out]
  go_loopw [4, 5] (BowL w0 W0 b nb (.slice A ns.length c)) (fun _ k _ => 6 - (intOf k).toNat)
  case atStart =>
    refine ⟨[], 0, nb + 1, 0, 0, rfl, rfl, rfl, by omega, BowTo.nil, ?_, N2.out, S2.out⟩
    have h := World.ownsRow_lit (base := W0.heap.size) (e := 39) (size := 3) W0 #[] 0 (Nat.le_refl _) (by unfold maxLen; omega) rfl
    rw [hz0] at h ⊢
    exact h
  case round =>
    obtain ⟨xs, n, g, cc, kv, hxn, rfl, rfl, hk6, hto, hown, hnm, hsr⟩ := hrel
    have HXN := hid hxn
    have T := hid hto
    have O := hid hown
    have N := hid hnm
    have SR := hid hsr
    have hn6 : n ≤ 6 := by have := hto.len; omega
    have hg := (hown.lt g rfl).1
    have hgb : b + 1 ≤ g := by omega
    have hnbb : b + 1 ≤ nb := by omega
    clear hto hown hnm hsr hxn
    by_cases hkl : kv < 6
    · obtain ⟨id, hid0⟩ : ∃ id, sixB[kv]? = some id := ⟨_, List.getElem?_eq_getElem (by show kv < 6; exact hkl)⟩
      have HID := hid hid0
      obtain ⟨i1, i2⟩ := six_ok kv hkl id hid0
      have HI1 := hid i1
      have q0 : (0 : Int) ≤ (kv : Int) := by omega
      have q1 : (kv : Int) < 6 := by omega
      clear hid0 i1
      go_wp2_with fail
      refine (pick_ok w0 b A c ns (6 * kv) 3 _ SR.out HA.out HB.out hl (by omega) (by omega) (by omega)).mono ?_
      rintro e w2 ⟨r, rfl, ⟨r0, r1⟩, hs2, hc2⟩
      have S2' := hid hs2
      have O2 := hid (own_side O.out hc2 (.inr hgb))
      have NN2 := hid (own_side N.out hc2 (.inr hnbb))
      clear hs2 hc2
      by_cases h0 : 0 < r
      · have x0 : w2.cell? ⟨nb, kv, none⟩ = some (.string id) := by rw [NN2.out.cellAt kv (by omega), List.getElem?_map, HID.out]; rfl
        go_wp2_with fail
        refine (l11DrawOne_ok w0 b A c ns (6 * kv + 2) id _ S2'.out HA.out HB.out hl (by omega) HI1.out i2).mono ?_
        rintro e w3 ⟨x, ⟨rfl, hx1, hx2⟩, hs3, hc3⟩
        have S3 := hid hs3
        have O3 := hid (own_side O2.out hc3 (.inr hgb))
        have N3 := hid (own_side NN2.out hc3 (.inr hnbb))
        have TX := hid (T.out.add hkl hx2 (by rw [hx1]; exact HID.out))
        have hw3 : W0.heap.size ≤ w3.heap.size := by have := (O3.out.lt g rfl).2; omega
        have HXF := hid (show partV xs ++ [.string x.fId, .int .i64 x.fAt, .int .i64 x.fMass] = partV (xs ++ [x]) by unfold partV; simp [DPart.cells])
        clear hs3 hc3 hx1 hx2 x0
        go_wp2_with (at_builtin; refine wpList_app (w0 := w3) rfl (.tmp 17) (.tmp 24) 61 rfl W0.heap.size 39 (.agg #[.string ⟨#[]⟩, .int .i64 0, .int .i64 0]) 3 32 Tryd.underlying61 infoPart rfl (by decide) _ _ _ rfl O3.out #[.string x.fId, .int .i64 x.fAt, .int .i64 x.fMass] 1 1 (by first | (simp [Act.eval]; done) | rfl) rfl (by simp [Value.oneCell']) (by omega) hw3 (Below.refl _ _) ?_; intro v1 w4 hown1 hbel1 hz1 _; obtain ⟨g4, c4, rfl, hf4⟩ := own_form hown1 (by omega); have O4 := hid hown1; have S4 := hid (S3.out.under hbel1 (by omega)); have N4 := hid (own_under N3.out hbel1 (by omega)); clear hown1 hbel1 hz1 hf4)
        go_roundw
        case rel =>
          refine ⟨xs ++ [x], n + 1, g4, c4, kv + 1, by rw [List.length_append, HXN.out]; rfl, rfl, by go_num, by omega, TX.out, ?_, N4.out, S4.out.more (by omega)⟩
          rw [← HXF.out]; exact O4.out
        case measure => simp [intOf]; omega
      · have h00 : ¬ 0 < r := h0
        go_wp2_with fail
        go_roundw
        case rel => exact ⟨xs, n, g, cc, kv + 1, HXN.out, rfl, by go_num, by omega, T.out.skip, O2.out, NN2.out, S2'.out.more (by omega)⟩
        case measure => simp [intOf]; omega
    · have hk7 : kv = 6 := by omega
      subst hk7
      by_cases hn0 : n = 0
      · subst hn0
        have hx0 : xs = [] := List.length_eq_zero_iff.1 HXN.out
        have O3 := hid (show wr.ownsRow W0.heap.size 39 3 (.slice (some ⟨g, 0, none⟩) 0 cc) 0 [] by have h := O.out; rw [hx0] at h; exact h)
        have hw3 : W0.heap.size ≤ wr.heap.size := by have := (O3.out.lt g rfl).2; omega
        clear hkl hk6
        go_wp2_with (at_builtin; refine wpList_app (w0 := wr) rfl (.tmp 29) (.tmp 31) 61 rfl W0.heap.size 39 (.agg #[.string ⟨#[]⟩, .int .i64 0, .int .i64 0]) 3 32 Tryd.underlying61 infoPart rfl (by decide) _ _ _ rfl O3.out #[.string ⟨#[115, 116, 105, 99, 107]⟩, .int .i64 350, .int .i64 40000] 1 1 (by first | (simp [Act.eval]; done) | rfl) rfl (by simp [Value.oneCell']) (by omega) hw3 (Below.refl _ _) ?_; intro v1 w4 hown1 hbel1 hz1 _; obtain ⟨g4, c4, rfl, hf4⟩ := own_form hown1 (by omega); have O4 := hid hown1; have S4 := hid (SR.out.under hbel1 (by omega)); clear hown1 hbel1 hz1 hf4)
        go_ret
        refine ⟨[stickP], 1, g4, c4, rfl, rfl, stick_ok, rows_own (n := 1) (css := [stickP].map DPart.cells) O4.out rfl (cellsPart_len _), own_capB O4.out, S4.out.below⟩
      · have hn0' : ¬ (n : Int) = 0 := by omega
        clear hkl
        go_wp2_with fail
        go_ret
        refine ⟨xs, n, g, cc, HXN.out, rfl, T.out.fin (by intro e; have h := HXN.out; rw [e] at h; exact hn0 h.symm), rows_own O.out (by rw [List.length_map]; exact HXN.out) (cellsPart_len _), own_capB O.out, SR.out.below⟩

set_option maxHeartbeats 1600000 in
set_option maxRecDepth 100000 in
theorem r8Bow_ok (A : Option Addr) (c : Nat) (ns : List Int) (w : World) (hA : BytesAt w A ns) (hB : ByteIn ns) (hl : ns.length ≤ 1048576) :
    Calls Tryd.prog 34 #[.slice A ns.length c] w (PostB w) := by
  have HA := hid hA
  have HB := hid hB
  clear hA hB
  go_enter Tryd.func34, Tryd.ntmps34
  go_wp2_with fail
  refine (from_ok A c ns w).mono ?_
  rintro e w1 ⟨b, rfl, hb, hs1⟩
  have S1 := hid hs1
  clear hs1 hb
  go_wp2_with fail
  refine (l11Draw_ok w b A c ns w1 S1.out HA.out HB.out hl).mono ?_
  rintro e w2 ⟨xs, n, g, cc, hn, rfl, hd, hr, hc, hb⟩
  have D := hid hd
  have N := hid hn
  have R := hid hr
  have C := hid hc
  have B := hid hb
  clear hd hr hb hn hc
  go_wp2_with fail
  go_ret
  exact ⟨xs, n, g, cc, N.out, rfl, D.out, R.out, C.out, B.out⟩

end Go.Proofs.YtmfadjdpbobfhaaDoor
