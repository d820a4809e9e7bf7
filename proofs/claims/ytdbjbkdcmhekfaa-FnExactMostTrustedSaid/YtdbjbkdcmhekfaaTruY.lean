/- MostTrusted: the reference's search: its state, a node, the leaf. -/
import Derived.Test.YtdbjbkdcmhekfaaTruV
namespace Go.Proofs.Ytdbjbkdcmhekfaa
open Go.RowKit
set_option linter.unusedVariables false

/-- the reference's memory: its own cells, the papers taken, the best way -/
def RefAt (b : Nat) (LA : Value) (t best : List Nat) (most nodes bud : Int) (full : Bool) (w : World) : Prop :=
  ∃ (At : Option Addr) (ct : Nat) (Ab : Option Addr) (cb : Nat), w.ownsRow b 99 7 (.slice (some ⟨b, 0, none⟩) 1 1) 1 [LA, .slice At t.length ct, .slice Ab best.length cb, .int .i64 most, .int .i64 nodes, .int .i64 bud, .bool full] ∧ w.ownsRow (b + 1) 2 1 (.slice At t.length ct) t.length (tV t) ∧ w.ownsRow (b + 1) 2 1 (.slice Ab best.length cb) best.length (tV best) ∧ ((Value.slice Ab best.length cb).ownBlock = none ∨ (Value.slice Ab best.length cb).ownBlock ≠ (Value.slice At t.length ct).ownBlock)
theorem RefAt.below {b : Nat} {LA : Value} {t best : List Nat} {most nodes bud : Int} {full : Bool} {w w' : World} (h : RefAt b LA t best most nodes bud full w) (hb : Below w.heap.size w w') : RefAt b LA t best most nodes bud full w' := by
  obtain ⟨At, ct, Ab, cb, ho, htk, hbs, hap⟩ := h
  exact ⟨At, ct, Ab, cb, own_below ho hb, own_below htk hb, own_below hbs hb, hap⟩
theorem RefAt.lt {b : Nat} {LA : Value} {t best : List Nat} {most nodes bud : Int} {full : Bool} {w : World} (h : RefAt b LA t best most nodes bud full w) : b < w.heap.size := by
  obtain ⟨At, ct, Ab, cb, ho, htk, hbs, hap⟩ := h
  exact (ho.lt b rfl).2
theorem RefAt.drewN {b : Nat} {LA : Value} {t best : List Nat} {most nodes bud : Int} {full : Bool} {w : World} (h : RefAt b LA t best most nodes bud full w) (n : Nat) : RefAt b LA t best most nodes bud full (w.drewN n) := h
theorem clI_comm (xs : List DPaper) (i j : Nat) : clI xs i j = clI xs j i := by
  unfold clI
  cases xs[i]? <;> cases xs[j]? <;> first | rfl | exact clashB_comm _ _
theorem agrTo_iff {xs : List DPaper} {t : List Nat} {k : Nat} (h : Agr xs t) : AgrTo xs (t ++ [k]) (t ++ [k]).length ↔ clAny xs t k = false := by
  constructor
  · intro h2
    unfold clAny
    rw [List.any_eq_false]
    intro i hi
    obtain ⟨q, hq, rfl⟩ := List.getElem_of_mem hi
    have h3 := h2 t.length (by simp) (by simp) q (by simp; omega) hq
    rw [List.getElem_append_right (Nat.le_refl _), List.getElem_append_left hq, clI_comm] at h3
    simp at h3
    simp [h3]
  · intro hc p hp _ q hq hqp
    rw [clI_comm]
    exact List.pairwise_iff_getElem.1 (h.snoc hc) q p hq hp hqp
/-- the reference's best way beside the program's: it begins with most = -1 -/
def RelR (S : WS) (best : List Nat) (most : Int) : Prop := (most = S.most ∧ best = S.best) ∨ (most = -1 ∧ best = [] ∧ S.best = [] ∧ S.most = 0)
theorem leafR {xs : List DPaper} (hp : ∀ x ∈ xs, 1 ≤ x.fTrust) {t : List Nat} {s : Int} {k : Nat} {S : WS} {best : List Nat} {most : Int} (hr : RelR S best most) (hS : BestT xs t k S) (hb : ∀ i ∈ S.best, i < xs.length) (ht : ∀ i ∈ t, i < xs.length) (hs : s = sumT xs t) :
    (most < s → s = (if S.most < s then (⟨S.left, t, s⟩ : WS) else S).most ∧ t = (if S.most < s then (⟨S.left, t, s⟩ : WS) else S).best) ∧
    (s < most → most = (if S.most < s then (⟨S.left, t, s⟩ : WS) else S).most ∧ best = (if S.most < s then (⟨S.left, t, s⟩ : WS) else S).best) ∧
    (s = most → lessL t best = false ∧ most = (if S.most < s then (⟨S.left, t, s⟩ : WS) else S).most ∧ best = (if S.most < s then (⟨S.left, t, s⟩ : WS) else S).best) := by
  have h4 := sumT_pos hp t ht
  rw [← hs] at h4
  rcases hr with ⟨rfl, rfl⟩ | ⟨rfl, -, h1, h2⟩
  · refine ⟨fun h => by rw [if_pos h]; exact ⟨rfl, rfl⟩, fun h => by rw [if_neg (by omega)]; exact ⟨rfl, rfl⟩, fun h => ⟨hS.tie hp hb ht (by rw [← hs]; exact h), ?_⟩⟩
    rw [if_neg (by omega)]
    exact ⟨rfl, rfl⟩
  · refine ⟨fun h => ?_, fun h => by omega, fun h => by omega⟩
    by_cases hpos : 0 < s
    · rw [if_pos (by omega)]; exact ⟨rfl, rfl⟩
    · have h5 : t.length = 0 := by omega
      rw [if_neg (by omega), h1, h2]
      exact ⟨by omega, List.length_eq_zero_iff.1 h5⟩
theorem ownT_ok (A : Option Addr) (c : Nat) (t : List Nat) (w : World) {B : Nat} (hT : w.ownsRow B 2 1 (.slice A t.length c) t.length (tV t)) (hn : t.length ≤ 1048576) :
    Calls Try.prog 98 #[.slice A t.length c] w fun e w' => ∃ A' c', e = .returned (.slice A' t.length c') ∧ w'.ownsRow w.heap.size 2 1 (.slice A' t.length c') t.length (tV t) ∧ Below w.heap.size w w' := by
  have h := l00Own_ok A c (t.map Int.ofNat) w (ints_own hT) (by simpa using hn) (own_nil0 hT)
  rw [List.length_map] at h
  refine h.mono ?_
  rintro e w' ⟨A', c', rfl, ho, _, hb⟩
  rw [List.length_map] at ho
  exact ⟨A', c', by rw [List.length_map], ho, hb⟩
theorem cell_apart {w : World} {b i j q : Nat} (h : i ≠ j) (v : Value) : ((w.drewN q).setCell ⟨b, j, none⟩ v).cell? ⟨b, i, none⟩ = w.cell? ⟨b, i, none⟩ := by
  have h9 : ((w.drewN q).setCell ⟨b, j, none⟩ v).cell? ⟨b, i, none⟩ = (w.drewN q).cell? ⟨b, i, none⟩ := by
    apply World.cell?_setCell_other
    intro e
    injection e with _ e
    exact h e.symm
  exact h9
theorem nodeR_more {b : Nat} {LA : Value} {t best : List Nat} {most n m : Int} {w : World} (h : RefAt b LA t best most n m false w) (h0 : 0 ≤ n) (h1 : n < m) (h2 : m ≤ 1000000) :
    Calls Try.prog 134 #[.pointer (some ⟨b, 0, none⟩)] w fun e w' => e = .returned (.bool true) ∧ RefAt b LA t best most (n + 1) m false w' ∧ Below b w w' ∧ ∀ i, i < 2 → w'.cell? ⟨b, i, none⟩ = w.cell? ⟨b, i, none⟩ := by
  obtain ⟨At, ct, Ab, cb, ho, htk, hbs, hap⟩ := h
  refine (nodeS_more b n m w (ho.cellAt 4 (by omega)) (ho.frozenAt 4) (ho.cellAt 5 (by omega)) (ho.cellAt 6 (by omega)) h0 h1 h2).mono ?_
  rintro e w' ⟨he, q, rfl⟩
  refine ⟨he, ⟨At, ct, Ab, cb, own_setCells [.int .i64 (n + 1)] (p := 4) (w := w.drewN q) ho, own_apart (w := w.drewN q) htk (by simp) _, own_apart (w := w.drewN q) hbs (by simp) _, hap⟩, ?_⟩
  exact ⟨(below_drewN' (Below.refl b w) q).setCell (p := ⟨b, 4, none⟩) (Nat.le_refl _) _, fun i hi => cell_apart (by omega) _⟩
theorem nodeR_full {b : Nat} {LA : Value} {t best : List Nat} {most n : Int} {f : Bool} {w : World} (h : RefAt b LA t best most n n f w) :
    Calls Try.prog 134 #[.pointer (some ⟨b, 0, none⟩)] w fun e w' => e = .returned (.bool false) ∧ RefAt b LA t best most n n true w' ∧ Below b w w' ∧ ∀ i, i < 2 → w'.cell? ⟨b, i, none⟩ = w.cell? ⟨b, i, none⟩ := by
  obtain ⟨At, ct, Ab, cb, ho, htk, hbs, hap⟩ := h
  refine (nodeS_full b n f w (ho.cellAt 4 (by omega)) (ho.cellAt 5 (by omega)) (ho.cellAt 6 (by omega)) (ho.frozenAt 6)).mono ?_
  rintro e w' ⟨he, q, rfl⟩
  refine ⟨he, ⟨At, ct, Ab, cb, own_setCells [.bool true] (p := 6) (w := w.drewN q) ho, own_apart (w := w.drewN q) htk (by simp) _, own_apart (w := w.drewN q) hbs (by simp) _, hap⟩, ?_⟩
  exact ⟨(below_drewN' (Below.refl b w) q).setCell (p := ⟨b, 6, none⟩) (Nat.le_refl _) _, fun i hi => cell_apart (by omega) _⟩
theorem agreesR {t : List Nat} {w : World} (xs : List DPaper) (A : Option Addr) (c k : Nat) (hA : RowsAt w 5 A (xs.map DPaper.cells)) (hn : xs.length ≤ 1048576) {At : Option Addr} {ct B : Nat} (hT : w.ownsRow B 2 1 (.slice At (t.length + 1) ct) (t.length + 1) (tV (t ++ [k]))) (ht : ∀ i ∈ t ++ [k], i < xs.length) (htl : t.length + 1 ≤ 1048576) (hag : Agr xs t) (z : Bool) (hz : (!clAny xs t k) = z) :
    Calls Try.prog 133 #[.slice A xs.length c, .slice At (t.length + 1) ct] w fun e w' => e = .returned (.bool z) ∧ Below w.heap.size w w' := by
  have hl : (t ++ [k]).length = t.length + 1 := by simp
  rw [← hl] at hT htl ⊢
  refine (l20Agrees_ok xs A c (t ++ [k]) At ct w hA hn (ints_own hT) ht htl).mono ?_
  rintro e w' ⟨⟨r, rfl, hr⟩, hb⟩
  refine ⟨ret_bool ?_, hb⟩
  rw [agrTo_iff hag] at hr
  rw [← hz]
  cases r <;> cases hq : clAny xs t k <;> simp_all
set_option maxHeartbeats 1600000 in
set_option maxRecDepth 100000 in
theorem l20LessB_ok (a b : List Nat) (Aa Ab : Option Addr) (ca cb : Nat) (w : World) (hA : IntsAt w Aa (a.map Int.ofNat)) (hB : IntsAt w Ab (b.map Int.ofNat)) (ha : a.length ≤ 9223372036854775807) (hb : b.length ≤ 9223372036854775807) :
    Calls Try.prog 132 #[.slice Aa a.length ca, .slice Ab b.length cb] w fun e w' => e = .returned (.bool (lessL a b)) ∧ ∃ n, w' = w.drewN n := by
  have HA := hid hA
  have HBB := hid hB
  clear hA hB
  go_enter Try.func132, Try.ntmps132
  go_wp2_with fail
  go_loopw [5] (fun i wr => ∃ k : Nat, k ≤ a.length ∧ k ≤ b.length ∧ i = .int .i64 (k : Int) ∧ a.take k = b.take k ∧ ∃ n, wr = w.drewN n) (fun i _ => a.length - (intOf i).toNat)
  case atStart => exact ⟨0, Nat.zero_le _, Nat.zero_le _, rfl, rfl, 0, rfl⟩
  case round =>
    obtain ⟨k, hk, hk2, rfl, hta, n, rfl⟩ := hrel
    have HT := hid hta
    clear hta
    by_cases h1 : k < a.length
    · by_cases h2 : k < b.length
      · obtain ⟨ab, ao, rfl, hlt, hc⟩ := HA.out (by intro e; rw [List.map_eq_nil_iff] at e; rw [e] at h1; exact absurd h1 (by simp))
        obtain ⟨bb, bo, rfl, hlt2, hc2⟩ := HBB.out (by intro e; rw [List.map_eq_nil_iff] at e; rw [e] at h2; exact absurd h2 (by simp))
        have a1 : (w.drewN n).cell? ⟨ab, ao + k, none⟩ = some (.int .i64 (a[k] : Int)) := hc k _ (by rw [List.getElem?_map, List.getElem?_eq_getElem h1]; rfl)
        have b1 : (w.drewN n).cell? ⟨bb, bo + k, none⟩ = some (.int .i64 (b[k] : Int)) := hc2 k _ (by rw [List.getElem?_map, List.getElem?_eq_getElem h2]; rfl)
        generalize hW : w.drewN n = W at a1 b1 ⊢
        have HW := hid hW
        have q0 : (0 : Int) ≤ (k : Int) := by omega
        have q1 : (k : Int) < a.length := by omega
        have q2 : (k : Int) < b.length := by omega
        clear hc hc2 hW
        by_cases he : a[k] = b[k]
        · have d1 : ((a[k] : Int) == (b[k] : Int)) = true := by rw [beq_iff_eq, he]
          have HN := hid (show a.take (k + 1) = b.take (k + 1) by rw [List.take_succ_eq_append_getElem h1, List.take_succ_eq_append_getElem h2, HT.out, he])
          clear he
          go_wp2_with fail
          go_quiet (fail)
          go_wp2_with fail
          go_roundw
          case rel => exact ⟨k + 1, by omega, by omega, by go_num, HN.out, n + nq, by rw [← HW.out]; simp [World.drewN, Nat.add_assoc]⟩
          case measure => simp [intOf]; omega
        · have d1 : ((a[k] : Int) == (b[k] : Int)) = false := by rw [beq_eq_false_iff_ne]; omega
          have HN := hid (less_at h1 h2 HT.out he)
          clear he
          go_wp2_with fail
          go_quiet (fail)
          go_wp2_with fail
          go_quiet (fail)
          go_wp2_with fail
          go_ret
          exact ⟨ret_bool (by rw [HN.out, Bool.eq_iff_iff]), _, by rw [← HW.out]; simp [World.drewN, Nat.add_assoc]; rfl⟩
      · have HN := hid (less_end HT.out hk hk2 (.inr (by omega)))
        have q1 : (k : Int) < a.length := by omega
        have q2 : ¬ (k : Int) < b.length := by omega
        go_wp2_with fail
        go_ret
        exact ⟨ret_bool (by rw [HN.out, Bool.eq_iff_iff]), _, rfl⟩
    · have HN := hid (less_end HT.out hk hk2 (.inl (by omega)))
      have q1 : ¬ (k : Int) < a.length := by omega
      go_wp2_with fail
      go_ret
      exact ⟨ret_bool (by rw [HN.out, Bool.eq_iff_iff]), _, rfl⟩
/-- a call's answer -/
def RPost (b : Nat) (w0 : World) (xs : List DPaper) (LA : Value) (r : Option WS) (t : List Nat) (bud : Int) (e : Ending) (w' : World) : Prop :=
  e = .returned (.tuple #[]) ∧ Below b w0 w' ∧ match r with
  | none => ∃ best most, RefAt b LA t best most bud bud true w'
  | some S => ((S.left : Int) ≤ bud ∧ ∀ i ∈ S.best, i < xs.length) ∧ RefAt b LA t S.best S.most (bud - S.left) bud false w'
set_option maxHeartbeats 3200000 in
set_option maxRecDepth 100000 in
theorem run_leaf (xs : List DPaper) (A : Option Addr) (c b : Nat) (w0 : World) (t : List Nat) (s nodes bud most : Int) (best : List Nat) (w : World) (hn : xs.length ≤ 1048576) (htl : t.length ≤ 1048576) (hbl : Below b w0 w) (hst : RefAt b (.slice A xs.length c) t best most nodes bud false w) (hle : s = most → lessL t best = false) :
    Calls Try.prog 70 #[.pointer (some ⟨b, 0, none⟩), .int .i64 (xs.length : Int), .int .i64 s] w fun e w' => e = .returned (.tuple #[]) ∧ Below b w0 w' ∧ (most < s → RefAt b (.slice A xs.length c) t t s nodes bud false w') ∧ (¬ most < s → RefAt b (.slice A xs.length c) t best most nodes bud false w') := by
  have HSt := hid hst
  obtain ⟨At, ct, Ab, cb, ho, htk, hbs, hap⟩ := hst
  have HO := hid ho
  have HT := hid htk
  have HS := hid hbs
  have HP := hid hap
  have HB := hid hbl
  have HL := hid hle
  clear ho htk hbs hap hbl hle
  have c0 := HO.out.cellAt 0 (by omega)
  have c1 := HO.out.cellAt 1 (by omega)
  have c2 := HO.out.cellAt 2 (by omega)
  have c3 := HO.out.cellAt 3 (by omega)
  have c4 := HO.out.cellAt 4 (by omega)
  have c5 := HO.out.cellAt 5 (by omega)
  have c6 := HO.out.cellAt 6 (by omega)
  have f0 := HO.out.frozenAt 0
  have f1 := HO.out.frozenAt 1
  have f2 := HO.out.frozenAt 2
  have f3 := HO.out.frozenAt 3
  have f4 := HO.out.frozenAt 4
  have f5 := HO.out.frozenAt 5
  have f6 := HO.out.frozenAt 6
  simp only [List.getElem?_cons_zero, List.getElem?_cons_succ] at c0 c1 c2 c3 c4 c5 c6
  by_cases hlt : most < s
  · have d1 : decide (most < s) = true := decide_eq_true hlt
    have HN := hid hlt
    clear hlt
    go_enter Try.func70, Try.ntmps70
    go_wp2_with fail
    go_quiet (fail)
    have OX := hid (show ((w.drewN nq).setCell ⟨b, 3, none⟩ (.int .i64 s)).ownsRow b 99 7 (.slice (some ⟨b, 0, none⟩) 1 1) 1 [(.slice A xs.length c), .slice At t.length ct, .slice Ab best.length cb, .int .i64 s, .int .i64 nodes, .int .i64 bud, .bool false] from own_setCells [.int .i64 s] (p := 3) (w := w.drewN nq) HO.out)
    have TX := hid (show ((w.drewN nq).setCell ⟨b, 3, none⟩ (.int .i64 s)).ownsRow (b + 1) 2 1 (.slice At t.length ct) t.length (tV t) from own_apart (w := w.drewN nq) HT.out (by simp) _)
    have BX := hid ((below_drewN' HB.out nq).setCell (p := ⟨b, 3, none⟩) (Nat.le_refl _) (.int .i64 s))
    go_wp2_with (first | (go_at_call 98; refine (ownT_ok At ct t _ (B := b + 1) TX.out htl).mono ?_; rintro e w3 ⟨A3, c3', rfl, ho3, hb3⟩; have O3 := hid (own_below OX.out hb3); have T3 := hid (own_below TX.out hb3); have B3 := hid (below_up BX.out (Nat.le_of_lt (OX.out.lt b rfl).2) hb3); have N3 := hid ho3; clear c0 f0 c1 f1 c2 f2 c3 f3 c4 f4 c5 f5 c6 f6; have c0 := O3.out.cellAt 0 (by omega); have c1 := O3.out.cellAt 1 (by omega); have c2 := O3.out.cellAt 2 (by omega); have c3 := O3.out.cellAt 3 (by omega); have c4 := O3.out.cellAt 4 (by omega); have c5 := O3.out.cellAt 5 (by omega); have c6 := O3.out.cellAt 6 (by omega); have f0 := O3.out.frozenAt 0; have f1 := O3.out.frozenAt 1; have f2 := O3.out.frozenAt 2; have f3 := O3.out.frozenAt 3; have f4 := O3.out.frozenAt 4; have f5 := O3.out.frozenAt 5; have f6 := O3.out.frozenAt 6; simp only [List.getElem?_cons_zero, List.getElem?_cons_succ] at c0 c1 c2 c3 c4 c5 c6; clear ho3 hb3))
    (try simp only [Exit.inBlock, Exit.then]); first | refine bodyPost_ret (results_none rfl _ _ _) rfl ?_ | refine bodyPost_end (results_none rfl _ _ _) rfl ?_
    refine ⟨rfl, B3.out.setCell (p := ⟨b, 2, none⟩) (Nat.le_refl _) _, fun _ => ⟨At, ct, A3, c3', own_setCells [.slice A3 t.length c3'] (p := 2) O3.out, own_apart T3.out (by simp) _, own_apart (own_mono N3.out (show b + 1 ≤ _ from (OX.out.lt b rfl).2)) (by simp) _, apart_new TX.out N3.out⟩, fun h => by have := HN.out; omega⟩
  · have HN := hid hlt
    have d1 : decide (most < s) = false := decide_eq_false hlt
    cases d2 : (s == most)
    · go_enter Try.func70, Try.ntmps70
      go_wp2_with fail
      go_quiet (fail)
      go_wp2_with fail
      (try simp only [Exit.inBlock, Exit.then]); first | refine bodyPost_ret (results_none rfl _ _ _) rfl ?_ | refine bodyPost_end (results_none rfl _ _ _) rfl ?_
      exact ⟨rfl, below_drewN' HB.out _, fun h => by have := HN.out; omega, by first | exact fun _ => HSt.out.drewN _ | exact HSt.out.drewN _⟩
    · have HLe := hid (show ∀ n, Calls Try.prog 132 #[.slice At t.length ct, .slice Ab best.length cb] (w.drewN n) fun e w' => e = .returned (.bool false) ∧ ∃ m, w' = (w.drewN n).drewN m from fun n => by rw [← HL.out (beq_iff_eq.1 d2)]; exact l20LessB_ok t best At Ab ct cb (w.drewN n) (ints_own (show (w.drewN n).ownsRow (b + 1) 2 1 (.slice At t.length ct) t.length (tV t) from HT.out)) (ints_own (show (w.drewN n).ownsRow (b + 1) 2 1 (.slice Ab best.length cb) best.length (tV best) from HS.out)) (by omega) (by have := own_capP HS.out; omega))
      go_enter Try.func70, Try.ntmps70
      go_wp2_with fail
      go_quiet (first | (go_at_call 132; exact quiet_mor (HLe.out _)))
      go_wp2_with fail
      (try simp only [Exit.inBlock, Exit.then]); first | refine bodyPost_ret (results_none rfl _ _ _) rfl ?_ | refine bodyPost_end (results_none rfl _ _ _) rfl ?_
      exact ⟨rfl, below_drewN' HB.out _, fun h => by have := HN.out; omega, by first | exact fun _ => HSt.out.drewN _ | exact HSt.out.drewN _⟩
end Go.Proofs.Ytdbjbkdcmhekfaa
