/- Rows of k cells: append of what a slice shows, append of zeros, copy. No program in sight. -/
import Derived.Test.YtmfadjdpbobfhaaDoorFrame
import Derived.Laws.CopyOwn
import Derived.Lib.AppendZerosOnto
import Derived.Lib.AppendZeros
import Derived.OwnWalk
namespace Go.Proofs.YtmfadjdpbobfhaaDoor
open Go.RowKit
set_option linter.unusedVariables false

section
variable {P : Program} {w w0 : World}

/-- the cells that a slice shows -/
def SrcAt (w : World) (A : Option Addr) (news : List Value) : Prop := news ≠ [] → ∃ ad : Addr, A = some ad ∧ ∀ j u, news[j]? = some u → w.cell? (ad.add j) = some u
theorem SrcAt.nil (w : World) (A : Option Addr) : SrcAt w A [] := fun h => absurd rfl h

theorem SrcAt.take {ad : Addr} {news : List Value} (h : SrcAt w (some ad) news) (m : Nat) : SrcAt w (some ad) (news.take m) := fun hne => by
  obtain ⟨ad', hA, hc⟩ := h (by intro e; rw [e] at hne; simp at hne)
  injection hA with hA
  subst hA
  refine ⟨_, rfl, fun j u hu => hc j u ?_⟩
  rw [List.getElem?_take] at hu
  split at hu
  · exact hu
  · cases hu
theorem SrcAt.drop {b o : Nat} {news : List Value} (h : SrcAt w (some ⟨b, o, none⟩) news) (p : Nat) : SrcAt w (some ⟨b, o + p, none⟩) (news.drop p) := fun hne => by
  obtain ⟨ad', hA, hc⟩ := h (by intro e; rw [e] at hne; simp at hne)
  injection hA with hA
  subst hA
  refine ⟨_, rfl, fun j u hu => ?_⟩
  rw [List.getElem?_drop] at hu
  have := hc (p + j) u hu
  have e1 : (⟨b, o, none⟩ : Addr).add (p + j) = ⟨b, o + (p + j), none⟩ := by unfold Addr.add; split <;> simp_all
  have e2 : (⟨b, o + p, none⟩ : Addr).add j = ⟨b, o + p + j, none⟩ := by unfold Addr.add; split <;> simp_all
  rw [e1] at this
  rw [e2, Nat.add_assoc]
  exact this
theorem SrcAt.below {w w1 : World} {b o : Nat} {news : List Value} (h : SrcAt w (some ⟨b, o, none⟩) news) (hb : Below w.heap.size w w1) (hlt : b < w.heap.size) : SrcAt w1 (some ⟨b, o, none⟩) news := fun hne => by
  obtain ⟨ad', hA, hc⟩ := h hne
  injection hA with hA
  subst hA
  refine ⟨_, rfl, fun j u hu => ?_⟩
  have e1 : (⟨b, o, none⟩ : Addr).add j = ⟨b, o + j, none⟩ := by unfold Addr.add; split <;> simp_all
  rw [e1, hb.cell (p := ⟨b, o + j, none⟩) hlt, ← e1]
  exact hc j u hu

theorem wpList_app_src {ops : Array Oper} {rest : List Oper} {o : Oper} {a : Act} {Q : Exit → Act → World → Prop} (hgd : o.guard = none) (s x : Operand) (t : TypeId)
    (ho : o.op = .call { callee := .builtin .append, args := #[s, x], argTypes := #[t, t] })
    (B : Nat) (e : TypeId) (z : Value) (size bytes : Nat) (ht : P.underlying t = some (.slice e)) (hinfo : (P.info? e).map (fun i => (i.zero, i.size, i.bytes)) = some (some z, size, bytes)) (hzs : z.cells.size = size) (hsz : 0 < size)
    (v : Value) (n : Nat) (xs : List Value) (hs : a.eval s = v) (hown : w.ownsRow B e size v n xs)
    (A : Option Addr) (m c : Nat) (news : List Value) (hx : a.eval x = .slice A m c) (hl : news.length = m * size) (hnone : A = none → c = 0) (hsrc : SrcAt w A news) (h1 : ∀ u ∈ news, u.oneCell' = true)
    (hbytes : (n + m) * (bytes + 1) ≤ 140737488355328) (hbase : B ≤ w.heap.size) (hbel : Below B w0 w)
    (h : ∀ v' w', w'.ownsRow B e size v' (n + m) (xs ++ news) → Below B w0 w' → w.heap.size ≤ w'.heap.size → wpList P ops Q rest (a.put o.dst v') w') : wpList P ops Q (o :: rest) a w := by
  obtain ⟨i0, hi, hz0, hz1, hz2⟩ := info_parts hinfo
  have hnm : n + m ≤ (n + m) * (bytes + 1) := Nat.le_mul_of_pos_right _ (by omega)
  have hb2 : (n + m) * bytes ≤ (n + m) * (bytes + 1) := Nat.mul_le_mul_left _ (by omega)
  cases A with
  | some ad =>
    refine wpList_append_own _ hgd s x t ho B e i0 z size bytes ht hi hz0 hz1 hz2 hzs hsz v n xs hs hown ad m c news hx hl ?_ h1 (by unfold maxLen; omega) (by omega) hbase ?_
    · intro j u hu
      obtain ⟨ad', hA, hc⟩ := hsrc (by intro e; rw [e] at hu; simp at hu)
      injection hA with hA
      subst hA
      exact hc j u hu
    · intro v' w' g1 g2 _
      exact h v' w' g1 (hbel.grown g2 hbase (fun k hk => (hown.lt k hk).1)) g2.size
  | none =>
    have hn : news = [] := by
      by_cases h0 : news = []
      · exact h0
      · obtain ⟨ad, hA, _⟩ := hsrc h0
        cases hA
    have hm : m = 0 := by
      rw [hn] at hl
      rcases Nat.eq_zero_or_pos m with h0 | h0
      · exact h0
      · have := Nat.mul_pos h0 hsz
        simp at hl
        omega
    subst hn hm
    have hc := hnone rfl
    subst hc
    have hr := run_append_owned_none (P := P) w B t o.type e i0 size ht hi v n xs hown
    exact Lib.wpList_append_run w hgd s x t t ho v _ hs hx v w hr (h v w (by simpa using hown) hbel (Nat.le_refl _))

/-- 'append(s[:i], make([]T, m)...)' where there is no room: a new row -/
theorem wpList_app_zeros {ops : Array Oper} {rest : List Oper} {o : Oper} {a : Act} {Q : Exit → Act → World → Prop} (hgd : o.guard = none) (s x : Operand) (t tn : TypeId)
    (ho : o.op = .call { callee := .builtin .append, args := #[s, x], argTypes := #[t, tn] })
    (B : Nat) (e : TypeId) (z : Value) (size bytes : Nat) (ht : P.underlying t = some (.slice e)) (htn : P.underlying tn = some (.int .i64)) (hinfo : (P.info? e).map (fun i => (i.zero, i.size, i.bytes)) = some (some z, size, bytes)) (hzs : z.cells.size = size) (hsz : 0 < size)
    (g n c : Nat) (xs : List Value) (hown : w.ownsRow B e size (.slice (some ⟨g, 0, none⟩) n c) n xs) (i m L : Nat) (hL : i + m = L) (M : Int) (hs : a.eval s = .slice (some ⟨g, 0, none⟩) i c) (hx : a.eval x = .int .i64 M) (hM : M = (m : Int)) (hin : i ≤ n) (hm : 0 < m) (hgrow : c < i + m)
    (hbytes : (i + m) * (bytes + 1) ≤ 140737488355328) (hbase : B ≤ w.heap.size) (hbel : Below B w0 w)
    (h : ∀ (w' : World) (c' : Nat) (row : List Value), L ≤ c' → c' ≤ maxLen → row.length = c' * size → row.take (i * size) = xs.take (i * size) → Hid (w'.heap[w.heap.size]? = some (.cells row.toArray e (0, 0))) → Below w.heap.size w w' → Below B w0 w' →
      wpList P ops Q rest (a.put o.dst (.slice (some ⟨w.heap.size, 0, none⟩) L c')) w') : wpList P ops Q (o :: rest) a w := by
  obtain ⟨i0, hi, hz0, hz1, hz2⟩ := info_parts hinfo
  subst hL
  subst hM
  have hnm : i + m ≤ (i + m) * (bytes + 1) := Nat.le_mul_of_pos_right _ (by omega)
  have hb2 : (i + m) * bytes ≤ (i + m) * (bytes + 1) := Nat.mul_le_mul_left _ (by omega)
  have hb3 : m * bytes ≤ (i + m) * bytes := Nat.mul_le_mul_right _ (by omega)
  have hmul : i * size ≤ n * size := Nat.mul_le_mul_right _ hin
  have hxl : xs.length = n * size := hown.1
  have hold : (Builtin.firstCells i0.size i (.slice (some ⟨g, 0, none⟩) i c)).run P w.drew = .ok (xs.take (i * size)).toArray w.drew := by
    rw [hz1]
    refine run_firstCells_some w.drew size i ⟨g, 0, none⟩ i c (xs.take (i * size)) (by rw [List.length_take]; omega) (fun j v hj => ?_)
    rw [List.getElem?_take] at hj
    split at hj
    · exact hown.cells (g := g) rfl j v hj
    · cases hj
  have hr := Lib.run_append_grow_zeros (P := P) w t tn o.type e i0 z .i64 .i64 ht htn hi hz0 (some ⟨g, 0, none⟩) i c (xs.take (i * size)) hold m hm (by omega) hgrow (by omega) (by rw [hz2]; omega) (by rw [hz2]; exact growslice_fits hgrow (by omega))
  have hge := grownCap_ge w (i + m) c e
  have hle := grownCap_le_maxLen w (i + m) c e (by unfold maxLen; omega)
  generalize grownCap w (i + m) c e = G at hr hge hle
  refine Lib.wpList_append_run w hgd s x t tn ho _ _ hs hx _ _ hr ?_
  refine h _ G ((xs.take (i * size)) ++ (Builtin.zeroCells z.cells m ++ Builtin.zeroCells z.cells (G - (i + m))).toList) hge hle ?_ ?_ (hid ?_) ?_ ?_
  · rw [List.length_append, List.length_take, Array.toList_append, List.length_append]
    simp only [Array.length_toList, size_zeroCells, hzs]
    have e1 : min (i * size) xs.length = i * size := by omega
    have e2 : G = i + m + (G - (i + m)) := by omega
    have e3 : G * size = i * size + (m * size + (G - (i + m)) * size) := by
      rw [← Nat.add_mul, ← Nat.add_mul]
      congr 1
      omega
    omega
  · rw [List.take_append_of_le_length (by rw [List.length_take]; omega), List.take_take, Nat.min_self]
  · rw [show w.heap.size = w.drew.heap.size from rfl, heap_alloc_new w.drew]
    congr 2
    apply Array.ext'
    simp
  · exact (Below.refl _ _).drew.alloc (Nat.le_refl _) _
  · exact hbel.drew.alloc hbase _

theorem run_copy_rows {dT sT ty elem : TypeId} {size : Nat} (hu : P.underlying dT = some (.slice elem)) (hsz : (P.info? elem).map (·.size) = some size)
    (g off dLen dCap : Nat) (ad : Addr) (sLen sCap : Nat) (cur : Array Value) (t : TypeId) (hg : w.heap[g]? = some (.cells cur t (0, 0))) (cs : List Value) (hn : cs.length = Nat.min sLen dLen * size)
    (hsrc : ∀ j v, cs[j]? = some v → w.cell? (ad.add j) = some v) (hfit : off + cs.length ≤ cur.size) (h1 : ∀ v ∈ cs, v.oneCell' = true) :
    (Builtin.copy_ #[dT, sT] ty #[.slice (some ⟨g, off, none⟩) dLen dCap, .slice (some ad) sLen sCap]).run P w = .ok (goInt (Nat.min sLen dLen)) (w.setRow g (cur.toList.take off ++ cs ++ cur.toList.drop (off + cs.length)).toArray) := by
  have hi : ∃ i, P.info? elem = some i ∧ i.size = size := by
    cases hh : P.info? elem with
    | none => rw [hh] at hsz; simp at hsz
    | some i => rw [hh] at hsz; exact ⟨i, rfl, by simpa using hsz⟩
  obtain ⟨i, hi, rfl⟩ := hi
  have hf := run_firstCells_some (P := P) w i.size (Nat.min sLen dLen) ad sLen sCap cs hn hsrc
  have hst := run_storeCells_at P g off t cs 0 cur w hg (by simpa using hfit) h1
  simp only [Nat.add_zero] at hst
  simp only [Nat.min_def] at hf ⊢
  simp [Builtin.copy_, run_underlying hu, sizeOf, typeInfo, hi, Builtin.lenOf, Nat.min_def, hf, hst]

/-- the run of a copy, as an equation with a world of its own name -/
theorem run_copy_some {dT sT ty elem : TypeId} {size : Nat} (hu : P.underlying dT = some (.slice elem)) (hsz : (P.info? elem).map (·.size) = some size)
    (g off dLen dCap : Nat) (ad : Addr) (sLen sCap L : Nat) (hL : Nat.min sLen dLen = L) (cur : List Value) (t : TypeId) (hg : Hid (w.heap[g]? = some (.cells cur.toArray t (0, 0)))) (cs : List Value) (hn : cs.length = L * size)
    (hsrc : ∀ j v, cs[j]? = some v → w.cell? (ad.add j) = some v) (hfit : off + cs.length ≤ cur.length) (h1 : ∀ v ∈ cs, v.oneCell' = true) (B : Nat) (hb : Below B w0 w) (hBg : B ≤ g) (hb' : Below g w0 w) :
    ∃ w2, (Builtin.copy_ #[dT, sT] ty #[.slice (some ⟨g, off, none⟩) dLen dCap, .slice (some ad) sLen sCap]).run P w = .ok (goInt L) w2 ∧ Hid (w2.heap[g]? = some (.cells (splice cur off cs).toArray t (0, 0))) ∧ Hid (Below B w0 w2) ∧ Hid (Below g w0 w2) := by
  subst hL
  refine ⟨_, run_copy_rows (P := P) (w := w) (sT := sT) (ty := ty) hu hsz g off dLen dCap ad sLen sCap cur.toArray t hg.out cs hn hsrc (by simpa using hfit) h1, hid ?_, below_setRow hb hBg _, below_setRow hb' (Nat.le_refl _) _⟩
  have e : (List.take off cur.toArray.toList ++ cs ++ List.drop (off + cs.length) cur.toArray.toList).toArray = (splice cur off cs).toArray := by simp [splice]
  rw [e]
  exact setRow_heap w g _ _ t _ hg.out

theorem wp_copy_rows {o : Oper} {a : Act} {K : Act → World → Prop} {Q : Exit → Act → World → Prop} (d s : Operand) (dT sT : TypeId)
    (ho : o.op = .call { callee := .builtin .copy, args := #[d, s], argTypes := #[dT, sT] }) (elem : TypeId) (size : Nat) (hu : P.underlying dT = some (.slice elem)) (hsz : (P.info? elem).map (·.size) = some size)
    (g off dLen dCap : Nat) (ad : Addr) (sLen sCap : Nat) (hd : a.eval d = .slice (some ⟨g, off, none⟩) dLen dCap) (hs : a.eval s = .slice (some ad) sLen sCap)
    (cur : List Value) (t : TypeId) (hg : w.heap[g]? = some (.cells cur.toArray t (0, 0))) (cs : List Value) (hn : cs.length = Nat.min sLen dLen * size)
    (hsrc : ∀ j v, cs[j]? = some v → w.cell? (ad.add j) = some v) (hfit : off + cs.length ≤ cur.length) (h1 : ∀ v ∈ cs, v.oneCell' = true) (B : Nat) (hb : Below B w0 w) (hBg : B ≤ g) (B' : Nat) (w1 : World) (hb' : Below B' w1 w) (hBg' : B' ≤ g)
    (h : ∀ w', Hid (w'.heap[g]? = some (.cells (splice cur off cs).toArray t (0, 0))) → Below B w0 w' → Below B' w1 w' → K (a.put o.dst (goInt (Nat.min sLen dLen))) w') : o.wp P a w K Q := by
  have hr := run_copy_rows (P := P) (w := w) (sT := sT) (ty := o.type) hu hsz g off dLen dCap ad sLen sCap cur.toArray t hg cs hn hsrc (by simpa using hfit) h1
  unfold Oper.wp execOp
  simp only [ho, resolve, invoke, builtin, Sem.run_bind, Sem.run_pure, Result.andThen_ok, List.map_toArray, List.map_cons, List.map_nil, hd, hs, hr]
  refine h _ (hid ?_) (below_setRow hb hBg _) (below_setRow hb' hBg' _)
  have e : (List.take off cur.toArray.toList ++ cs ++ List.drop (off + cs.length) cur.toArray.toList).toArray = (splice cur off cs).toArray := by simp [splice]
  rw [e]
  exact setRow_heap w g _ _ t _ hg

theorem wpList_copy_rows {ops : Array Oper} {rest : List Oper} {o : Oper} {a : Act} {Q : Exit → Act → World → Prop} (hgd : o.guard = none) (d s : Operand) (dT sT : TypeId)
    (ho : o.op = .call { callee := .builtin .copy, args := #[d, s], argTypes := #[dT, sT] }) (elem : TypeId) (size : Nat) (hu : P.underlying dT = some (.slice elem)) (hsz : (P.info? elem).map (·.size) = some size)
    (g off dLen dCap : Nat) (ad : Addr) (sLen sCap : Nat) (hd : a.eval d = .slice (some ⟨g, off, none⟩) dLen dCap) (hs : a.eval s = .slice (some ad) sLen sCap)
    (cur : List Value) (t : TypeId) (hg : w.heap[g]? = some (.cells cur.toArray t (0, 0))) (cs : List Value) (hn : cs.length = Nat.min sLen dLen * size)
    (hsrc : ∀ j v, cs[j]? = some v → w.cell? (ad.add j) = some v) (hfit : off + cs.length ≤ cur.length) (h1 : ∀ v ∈ cs, v.oneCell' = true) (B : Nat) (hb : Below B w0 w) (hBg : B ≤ g) (B' : Nat) (w1 : World) (hb' : Below B' w1 w) (hBg' : B' ≤ g)
    (h : ∀ w', Hid (w'.heap[g]? = some (.cells (splice cur off cs).toArray t (0, 0))) → Below B w0 w' → Below B' w1 w' → wpList P ops Q rest (a.put o.dst (goInt (Nat.min sLen dLen))) w') : wpList P ops Q (o :: rest) a w :=
  wpList_plain hgd fun _ hK => wp_copy_rows d s dT sT ho elem size hu hsz g off dLen dCap ad sLen sCap hd hs cur t hg cs hn hsrc hfit h1 B hb hBg B' w1 hb' hBg' fun w' h2 h3 h4 => hK _ _ (h w' h2 h3 h4)

theorem step_copy_rows {ops : Array Oper} {o : Oper} {a : Act} {K : Act → World → Prop} {Q : Exit → Act → World → Prop} {E : Prop} (hgd : o.guard = none) (d s : Operand) (dT sT : TypeId)
    (ho : o.op = .call { callee := .builtin .copy, args := #[d, s], argTypes := #[dT, sT] }) (elem : TypeId) (size : Nat) (hu : P.underlying dT = some (.slice elem)) (hsz : (P.info? elem).map (·.size) = some size)
    (g off dLen dCap : Nat) (ad : Addr) (sLen sCap : Nat) (hd : a.eval d = .slice (some ⟨g, off, none⟩) dLen dCap) (hs : a.eval s = .slice (some ad) sLen sCap)
    (cur : List Value) (t : TypeId) (hg : w.heap[g]? = some (.cells cur.toArray t (0, 0))) (cs : List Value) (hn : cs.length = Nat.min sLen dLen * size)
    (hsrc : ∀ j v, cs[j]? = some v → w.cell? (ad.add j) = some v) (hfit : off + cs.length ≤ cur.length) (h1 : ∀ v ∈ cs, v.oneCell' = true) (B : Nat) (hb : Below B w0 w) (hBg : B ≤ g) (B' : Nat) (w1 : World) (hb' : Below B' w1 w) (hBg' : B' ≤ g)
    (h : ∀ w', Hid (w'.heap[g]? = some (.cells (splice cur off cs).toArray t (0, 0))) → Below B w0 w' → Below B' w1 w' → K (a.put o.dst (goInt (Nat.min sLen dLen))) w') :
    if Region.wanted o (yielded ops a.tmps) = true then Oper.wp P o a w K Q else E := by
  have hw : Region.wanted o (yielded ops a.tmps) = true := by simp [Region.wanted, hgd]
  rw [if_pos hw]
  exact wp_copy_rows d s dT sT ho elem size hu hsz g off dLen dCap ad sLen sCap hd hs cur t hg cs hn hsrc hfit h1 B hb hBg B' w1 hb' hBg' h
end

theorem src_at {w w1 : World} {b j : Nat} {u : Value} (h : w1.cell? ⟨b, j, none⟩ = w.cell? ⟨b, j, none⟩) (h2 : w.cell? ⟨b, j, none⟩ = some u) : w1.cell? ((⟨b, 0, none⟩ : Addr).add j) = some u := by
  have hadd : (⟨b, 0, none⟩ : Addr).add j = ⟨b, j, none⟩ := by unfold Addr.add; split <;> simp_all
  rw [hadd, h, h2]
theorem fits_none {w : World} {A : Option Addr} {c n k : Nat} {news : List Value} (hs : SrcAt w A news) (hc : A = none → c = 0) (hl : news.length = n * k) (hk : 0 < k) (h : A = none) : n = 0 ∧ c = 0 := by
  refine ⟨?_, hc h⟩
  rcases Nat.eq_zero_or_pos n with h0 | h0
  · exact h0
  · obtain ⟨ad, hA, _⟩ := hs (by intro e; rw [e] at hl; have := Nat.mul_pos h0 hk; simp at hl; omega)
    rw [h] at hA
    cases hA
theorem fits_some {w : World} {A : Option Addr} {news : List Value} (hs : SrcAt w A news) {ad : Addr} (h : A = some ad) {j : Nat} {u : Value} (hu : news[j]? = some u) : w.cell? (ad.add j) = some u := by
  obtain ⟨ad', hA, hc⟩ := hs (by intro e; rw [e] at hu; simp at hu)
  rw [h] at hA
  injection hA with hA
  subst hA
  exact hc j u hu
theorem RowsAt.src {w : World} {k : Nat} {A : Option Addr} {css : List (List Value)} (h : RowsAt w k A css) (hk : ∀ c ∈ css, c.length = k) (h0 : 0 < k) : SrcAt w A css.flatten := fun hne => by
  obtain ⟨b, o, rfl, hlt, hc⟩ := h (by intro e; subst e; exact hne rfl)
  refine ⟨_, rfl, fun j u hu => ?_⟩
  have hadd : (⟨b, o, none⟩ : Addr).add j = ⟨b, o + j, none⟩ := by unfold Addr.add; split <;> simp_all
  have hjl : j < css.length * k := by rw [← flatten_length hk]; exact (List.getElem?_eq_some_iff.1 hu).1
  have h1 : j / k < css.length := (Nat.div_lt_iff_lt_mul h0).2 hjl
  have h2 : j % k < k := Nat.mod_lt _ h0
  have h3 : j / k * k + j % k = j := by rw [Nat.mul_comm]; exact Nat.div_add_mod j k
  have h4 := flatten_at (i := j / k) (j := j % k) hk (List.getElem?_eq_getElem h1) h2
  rw [h3, hu] at h4
  rw [hadd, ← hc (j / k) _ (List.getElem?_eq_getElem h1) (j % k) u h4.symm, Nat.add_assoc, h3]
theorem one_of_rows {css : List (List Value)} (h : ∀ c ∈ css, ∀ u ∈ c, u.oneCell' = true) : ∀ u ∈ css.flatten, u.oneCell' = true := fun u hu => by
  obtain ⟨c, hc, h1⟩ := List.mem_flatten.1 hu
  exact h c hc u h1

/-- what stood ahead of i, the new cells, what stood from i on -/
theorem insert_splice {a u d row : List Value} {p k : Nat} (hp : p = a.length) (hk : k = u.length) (ht : row.take p = a) (hl : p + k + d.length ≤ row.length) :
    (splice (splice row p u) (p + k) d).take (p + k + d.length) = a ++ u ++ d := by
  subst hp hk
  unfold splice
  rw [ht]
  have e1 : (a ++ (u ++ List.drop (a.length + u.length) row)).take (a.length + u.length) = a ++ u := by
    rw [← List.append_assoc, ← List.length_append, List.take_left]
  rw [e1]
  have e2 : a ++ u ++ (d ++ List.drop (a.length + u.length + d.length) (a ++ (u ++ List.drop (a.length + u.length) row))) = (a ++ u ++ d) ++ List.drop (a.length + u.length + d.length) (a ++ (u ++ List.drop (a.length + u.length) row)) := by simp [List.append_assoc]
  rw [e2, ← List.length_append, ← List.length_append, List.take_left]
theorem splice_length {row u : List Value} {p : Nat} (hl : p + u.length ≤ row.length) : (splice row p u).length = row.length := length_splice row p u hl

end Go.Proofs.YtmfadjdpbobfhaaDoor
