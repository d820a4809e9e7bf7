/- Goods: the search for a name. -/
import Derived.Test.YtjeklbhdngkngaaStock
namespace Go.Proofs.Ytjeklbhdngkngaa
open Go.RowKit
set_option linter.unusedVariables false

/-- how a good's name compares -/
def cmpG (x : DGood) (z : Str) : Int := if gn x < z then -1 else if gn x = z then 0 else 1
theorem cmpG_lt {x : DGood} {z : Str} (h : gn x < z) : cmpG x z = -1 := if_pos h
theorem cmpG_eq {x : DGood} {z : Str} (h : gn x = z) : cmpG x z = 0 := by unfold cmpG; rw [if_neg (by rw [h]; exact List.lt_irrefl _), if_pos h]
theorem cmpG_gt {x : DGood} {z : Str} (h : z < gn x) : cmpG x z = 1 := by
  unfold cmpG
  rw [if_neg (fun h2 => List.lt_irrefl _ (List.lt_trans h h2)), if_neg (fun e => by rw [e] at h; exact List.lt_irrefl _ h)]
theorem str_three (a b : Str) : a < b ∨ a = b ∨ b < a := by
  by_cases h : a < b
  · exact .inl h
  · rcases str_lt_or_eq (List.not_lt.1 h) with h2 | h2
    · exact .inr (.inr h2)
    · exact .inr (.inl h2.symm)

/-- where a name is, or would be -/
def FoundG (xs : List DGood) (z : Str) (w : World) (e : Ending) (w' : World) : Prop := (∃ (k : Nat) (f : Bool), e = .returned (.tuple #[.int .i64 k, .bool f]) ∧ k ≤ xs.length ∧ (∀ j (h : j < xs.length), j < k → gn xs[j] < z) ∧ ((f = true ∧ ∃ h : k < xs.length, gn xs[k] = z) ∨ (f = false ∧ ∀ j (h : j < xs.length), k ≤ j → z < gn xs[j]))) ∧ Below w.heap.size w w'

set_option maxHeartbeats 800000 in
theorem cmpGood_ok (x : DGood) (s : ByteArray) (w : World) (v : Int) (hv : cmpG x s.data.toList = v) :
    Calls Try.prog 152 #[.agg #[.string x.fId, .int .i64 x.fCount, .int .i64 x.fLeast, .int .i64 x.fPrice], .string s] w fun e w' => e = .returned (.int .i64 v) ∧ Below w.heap.size w w' := by
  rcases str_three (gn x) s.data.toList with h | h | h
  · have h2 := cmpG_lt h
    rw [hv] at h2
    subst h2
    have d1 : Op.bytesLess x.fId.toList s.toList = true := by rw [less_iff]; exact decide_eq_true h
    clear hv h
    go_enter Try.func152, Try.ntmps152
    go_wp2_with fail
    go_ret
    exact ⟨rfl, below_alloc _ _⟩
  · have h2 := cmpG_eq h
    rw [hv] at h2
    subst h2
    have d1 : Op.bytesLess x.fId.toList s.toList = false := by rw [less_iff]; exact decide_eq_false (by unfold gn at h; rw [h]; exact List.lt_irrefl _)
    have d2 : (x.fId.toList == s.toList) = true := by rw [beq_iff_eq, Lib.toList_data, Lib.toList_data]; exact h
    clear hv h
    go_enter Try.func152, Try.ntmps152
    go_wp2_with fail
    go_ret
    exact ⟨rfl, below_alloc _ _⟩
  · have h2 := cmpG_gt h
    rw [hv] at h2
    subst h2
    have d1 : Op.bytesLess x.fId.toList s.toList = false := by rw [less_iff]; exact decide_eq_false (fun h2 => List.lt_irrefl _ (List.lt_trans h h2))
    have d2 : (x.fId.toList == s.toList) = false := by
      rw [beq_eq_false_iff_ne, Lib.toList_data, Lib.toList_data]
      intro e
      unfold gn at h
      rw [e] at h
      exact List.lt_irrefl _ h
    clear hv h
    go_enter Try.func152, Try.ntmps152
    go_wp2_with fail
    go_ret
    exact ⟨rfl, below_alloc _ _⟩

set_option maxHeartbeats 1600000 in
set_option maxRecDepth 100000 in
theorem searchGood_ok (A : Option Addr) (c : Nat) (xs : List DGood) (s : ByteArray) (w : World) (hA : RowsAt w 4 A (xs.map DGood.cells)) (hs : GoodsTo xs xs.length) (hn : xs.length ≤ 16) :
    Calls Try.prog 151 #[.slice A xs.length c, .string s, .func (.func 152) #[] #[]] w (FoundG xs s.data.toList w) := by
  have HA := hid hA
  have HS := hid hs
  clear hA hs
  go_enter Try.func151, Try.ntmps151
  go_wp2_with fail
  go_loopw [9, 10, 11] (fun vi vj vh wr => ∃ (i j : Nat), i ≤ j ∧ j ≤ xs.length ∧ vi = .int .i64 i ∧ vj = .int .i64 j ∧ (∀ q (h : q < xs.length), q < i → gn xs[q] < s.data.toList) ∧ (∀ q (h : q < xs.length), j ≤ q → ¬ gn xs[q] < s.data.toList) ∧ Below w.heap.size w wr) (fun vi vj _ _ => (intOf vj).toNat - (intOf vi).toNat)
  case atStart => exact ⟨0, xs.length, Nat.zero_le _, Nat.le_refl _, rfl, rfl, fun _ _ h => absurd h (Nat.not_lt_zero _), fun q h hq => absurd h (by omega), Below.refl _ _⟩
  case round =>
    obtain ⟨i, j, hij, hj, rfl, rfl, hlo, hhi, hbel⟩ := hrel
    have HL := hid hlo
    have HH := hid hhi
    have HB := hid hbel
    clear hlo hhi hbel
    by_cases hlt : i < j
    · obtain ⟨m, hmm⟩ : ∃ m, m = (i + j) / 2 := ⟨_, rfl⟩
      have hm1 : i ≤ m := by omega
      have hm2 : m < j := by omega
      have hm : m < xs.length := by omega
      have q0 : (0 : Int) ≤ (m : Int) := by omega
      have q1 : (m : Int) < xs.length := by omega
      have w1 : IntKind.u64.wrap ((i : Int) + (j : Int)) = (i : Int) + (j : Int) := IntWalk.u64_in _ (by omega)
      have w2 : ((i : Int) + (j : Int)) / 2 = (m : Int) := by omega
      have hne : xs.map DGood.cells ≠ [] := by intro e; rw [List.map_eq_nil_iff] at e; rw [e] at hm; exact absurd hm (by simp)
      obtain ⟨b, o, rfl, hlt, hc⟩ := (HA.out.below HB.out) hne
      have HC := hid hc
      have hc0 : wr.cell? ⟨b, o + m * 4, none⟩ = some (.string xs[m].fId) := HC.out m _ (by rw [List.getElem?_map, List.getElem?_eq_getElem hm]; rfl) 0 _ rfl
      have hc1 : wr.cell? ⟨b, o + m * 4 + 1, none⟩ = some (.int .i64 xs[m].fCount) := HC.out m _ (by rw [List.getElem?_map, List.getElem?_eq_getElem hm]; rfl) 1 _ rfl
      have hc2 : wr.cell? ⟨b, o + m * 4 + 2, none⟩ = some (.int .i64 xs[m].fLeast) := HC.out m _ (by rw [List.getElem?_map, List.getElem?_eq_getElem hm]; rfl) 2 _ rfl
      have hc3 : wr.cell? ⟨b, o + m * 4 + 3, none⟩ = some (.int .i64 xs[m].fPrice) := HC.out m _ (by rw [List.getElem?_map, List.getElem?_eq_getElem hm]; rfl) 3 _ rfl
      clear hc hne
      have HM := hid hmm
      clear hmm
      by_cases hg : gn xs[m] < s.data.toList
      · have HL2 := hid (show ∀ q (h : q < xs.length), q < m + 1 → gn xs[q] < s.data.toList from fun q h hq => by
          rcases Nat.lt_or_ge q m with h3 | h3
          · exact List.lt_trans (gn_lt HS.out m hm q h3) hg
          · have : q = m := by omega
            subst this
            exact hg)
        have HC1 := hid (cmpG_lt hg)
        clear hg
        go_wp2_with (go_at_call 152; refine (cmpGood_ok xs[m] s _ (-1) HC1.out).mono ?_; rintro e w2 ⟨rfl, hb⟩; have B2 := hid (below_trans HB.out hb); clear hb)
        go_roundw
        case rel => exact ⟨m + 1, j, by omega, hj, by go_num, rfl, HL2.out, HH.out, B2.out⟩
        case measure => simp [intOf]; omega
      · have HH2 := hid (show ∀ q (h : q < xs.length), m ≤ q → ¬ gn xs[q] < s.data.toList from fun q h hq h2 => by
          rcases Nat.lt_or_ge m q with h3 | h3
          · exact hg (List.lt_trans (gn_lt HS.out q h m h3) h2)
          · have : q = m := by omega
            subst this
            exact hg h2)
        obtain ⟨v, hv⟩ : ∃ v, cmpG xs[m] s.data.toList = v := ⟨_, rfl⟩
        have hv0 : 0 ≤ v := by
          rw [← hv]
          unfold cmpG
          rw [if_neg hg]
          split <;> omega
        have HC1 := hid hv
        clear hg hv
        go_wp2_with (go_at_call 152; refine (cmpGood_ok xs[m] s _ v HC1.out).mono ?_; rintro e w2 ⟨rfl, hb⟩; have B2 := hid (below_trans HB.out hb); clear hb)
        go_roundw
        case rel => exact ⟨i, m, hm1, by omega, rfl, rfl, HL.out, HH2.out, B2.out⟩
        case measure => simp [intOf]; omega
    · have hij2 : i = j := by omega
      subst hij2
      by_cases hm : i < xs.length
      · have q0 : (0 : Int) ≤ (i : Int) := by omega
        have q1 : (i : Int) < xs.length := by omega
        have hne : xs.map DGood.cells ≠ [] := by intro e; rw [List.map_eq_nil_iff] at e; rw [e] at hm; exact absurd hm (by simp)
        obtain ⟨b, o, rfl, hlt, hc⟩ := (HA.out.below HB.out) hne
        have HC := hid hc
        have hc0 : wr.cell? ⟨b, o + i * 4, none⟩ = some (.string xs[i].fId) := HC.out i _ (by rw [List.getElem?_map, List.getElem?_eq_getElem hm]; rfl) 0 _ rfl
        have hc1 : wr.cell? ⟨b, o + i * 4 + 1, none⟩ = some (.int .i64 xs[i].fCount) := HC.out i _ (by rw [List.getElem?_map, List.getElem?_eq_getElem hm]; rfl) 1 _ rfl
        have hc2 : wr.cell? ⟨b, o + i * 4 + 2, none⟩ = some (.int .i64 xs[i].fLeast) := HC.out i _ (by rw [List.getElem?_map, List.getElem?_eq_getElem hm]; rfl) 2 _ rfl
        have hc3 : wr.cell? ⟨b, o + i * 4 + 3, none⟩ = some (.int .i64 xs[i].fPrice) := HC.out i _ (by rw [List.getElem?_map, List.getElem?_eq_getElem hm]; rfl) 3 _ rfl
        clear hc hne
        rcases str_lt_or_eq (List.not_lt.1 (HH.out i hm (Nat.le_refl _))) with he | he
        · have HC1 := hid (cmpG_gt he)
          have HF := hid (show ∀ j (h : j < xs.length), i ≤ j → s.data.toList < gn xs[j] from fun j h hj => by
            rcases Nat.lt_or_ge i j with h3 | h3
            · exact List.lt_trans he (gn_lt HS.out j h i h3)
            · have : j = i := by omega
              subst this
              exact he)
          clear he
          go_wp2_with (go_at_call 152; refine (cmpGood_ok xs[i] s _ 1 HC1.out).mono ?_; rintro e w2 ⟨rfl, hb⟩; have B2 := hid (below_trans HB.out hb); clear hb)
          go_ret2
          exact ⟨⟨i, false, rfl, by omega, HL.out, .inr ⟨rfl, HF.out⟩⟩, B2.out⟩
        · have HC1 := hid (cmpG_eq he.symm)
          have HE := hid he.symm
          clear he
          go_wp2_with (go_at_call 152; refine (cmpGood_ok xs[i] s _ 0 HC1.out).mono ?_; rintro e w2 ⟨rfl, hb⟩; have B2 := hid (below_trans HB.out hb); clear hb)
          go_ret2
          exact ⟨⟨i, true, rfl, by omega, HL.out, .inl ⟨rfl, hm, HE.out⟩⟩, B2.out⟩
      · have q1 : ¬ (i : Int) < xs.length := by omega
        go_wp2_with fail
        go_ret2
        exact ⟨⟨i, false, rfl, by omega, HL.out, .inr ⟨rfl, fun j h hj => absurd h (by omega)⟩⟩, HB.out⟩

set_option maxHeartbeats 1600000 in
set_option maxRecDepth 100000 in
theorem goodOf_ok (A : Option Addr) (c : Nat) (xs : List DGood) (s : ByteArray) (w : World) (hA : RowsAt w 4 A (xs.map DGood.cells)) (hs : GoodsTo xs xs.length) (hn : xs.length ≤ 16) :
    Calls Try.prog 121 #[.slice A xs.length c, .string s] w (FoundG xs s.data.toList w) := by
  have HA := hid hA
  have HS := hid hs
  clear hA hs
  go_enter Try.func121, Try.ntmps121
  go_wp2_with fail
  refine (searchGood_ok A c xs s w HA.out HS.out hn).mono ?_
  rintro e w1 ⟨⟨k, f, rfl, hk, hl, ho⟩, hb⟩
  have HL := hid hl
  have HO := hid ho
  clear hl ho
  go_wp2_with fail
  go_ret2
  exact ⟨⟨k, f, rfl, hk, HL.out, HO.out⟩, hb⟩

set_option maxHeartbeats 1600000 in
set_option maxRecDepth 100000 in
theorem l26Find_ok (A : Option Addr) (c : Nat) (xs : List DGood) (x : ByteArray) (w : World) (hA : RowsAt w 4 A (xs.map DGood.cells)) (hn : xs.length ≤ 1000) :
    Calls Try.prog 117 #[.slice A xs.length c, .string x] w fun e w' => (∃ r : Int, e = .returned (.int .i64 r) ∧ ((r = -1 ∧ ∀ j (h : j < xs.length), gn xs[j] ≠ x.data.toList) ∨ ∃ (i : Nat), r = (i : Int) ∧ (∃ hi : i < xs.length, gn xs[i] = x.data.toList) ∧ ∀ j (h : j < xs.length), j < i → gn xs[j] ≠ x.data.toList)) ∧ w = w' := by
  have HA := hid hA
  clear hA
  go_enter Try.func117, Try.ntmps117
  go_wp2_with fail
  go_loop [5] (fun v => ∃ k : Nat, k ≤ xs.length ∧ v = .int .i64 k ∧ ∀ j (h : j < xs.length), j < k → gn xs[j] ≠ x.data.toList) (fun v => xs.length - (intOf v).toNat)
  case atStart => exact ⟨0, Nat.zero_le _, rfl, fun j hj h => absurd h (Nat.not_lt_zero _)⟩
  case round =>
    obtain ⟨k, hk, rfl, hall⟩ := hrel
    have HL := hid hall
    clear hall
    by_cases hm : k < xs.length
    · have q0 : (0 : Int) ≤ (k : Int) := by omega
      have q1 : (k : Int) < xs.length := by omega
      have hne : xs.map DGood.cells ≠ [] := by intro e; rw [List.map_eq_nil_iff] at e; rw [e] at hm; exact absurd hm (by simp)
      obtain ⟨b, o, rfl, hlt, hc⟩ := HA.out hne
      have HC := hid hc
      have hc0 : w.cell? ⟨b, o + k * 4, none⟩ = some (.string xs[k].fId) := HC.out k _ (by rw [List.getElem?_map, List.getElem?_eq_getElem hm]; rfl) 0 _ rfl
      have hc1 : w.cell? ⟨b, o + k * 4 + 1, none⟩ = some (.int .i64 xs[k].fCount) := HC.out k _ (by rw [List.getElem?_map, List.getElem?_eq_getElem hm]; rfl) 1 _ rfl
      have hc2 : w.cell? ⟨b, o + k * 4 + 2, none⟩ = some (.int .i64 xs[k].fLeast) := HC.out k _ (by rw [List.getElem?_map, List.getElem?_eq_getElem hm]; rfl) 2 _ rfl
      have hc3 : w.cell? ⟨b, o + k * 4 + 3, none⟩ = some (.int .i64 xs[k].fPrice) := HC.out k _ (by rw [List.getElem?_map, List.getElem?_eq_getElem hm]; rfl) 3 _ rfl
      clear hc hne
      by_cases l2 : gn xs[k] = x.data.toList
      · have d2 : (xs[k].fId.toList == x.toList) = true := by rw [beq_iff_eq, Lib.toList_data, Lib.toList_data]; exact l2
        have L2 := hid l2
        clear l2
        go_wp2_with fail
        go_ret
        exact ⟨⟨_, rfl, .inr ⟨k, rfl, ⟨hm, L2.out⟩, HL.out⟩⟩, rfl⟩
      · have d2 : (xs[k].fId.toList == x.toList) = false := by
          rw [beq_eq_false_iff_ne, Lib.toList_data, Lib.toList_data]
          exact l2
        have HL2 := hid (show ∀ j (hj : j < xs.length), j < k + 1 → gn xs[j] ≠ x.data.toList from fun j hj h => by
          rcases Nat.lt_or_ge j k with h3 | h3
          · exact HL.out j hj h3
          · have : j = k := by omega
            subst this
            exact l2)
        clear l2
        go_wp2_with fail
        go_round
        case rel => exact ⟨k + 1, by omega, by go_num, HL2.out⟩
        case measure => simp [intOf]; omega
    · go_wp2_with fail
      go_ret
      exact ⟨⟨_, rfl, .inl ⟨rfl, fun j h => HL.out j h (by omega)⟩⟩, rfl⟩

end Go.Proofs.Ytjeklbhdngkngaa
