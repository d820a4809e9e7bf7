/- FnBows: parts found, moved and left out. -/
import Derived.Test.YtmfadjdpbobfhaaDoorBowB
import Derived.Test.YtmfadjdpbobfhaaDoorApp3
import Derived.Test.YtmfadjdpbobfhaaDoorInts
import Derived.Deep.AppendLies
import Derived.Maps.AppendAt
namespace Go.Proofs.YtmfadjdpbobfhaaDoor
open Go.RowKit
set_option linter.unusedVariables false

theorem less_self : ∀ l : List UInt8, Op.bytesLess l l = false
  | [] => by simp [Op.bytesLess]
  | a :: l => by simp [Op.bytesLess, less_self l]
theorem less_ne {a b : ByteArray} (h : Op.bytesLess a.toList b.toList = true) : (a.toList == b.toList) = false := by
  rw [beq_eq_false_iff_ne]
  intro e
  rw [e, less_self] at h
  cases h
theorem step_appS {P : Program} {w w0 : World} {ops : Array Oper} {o : Oper} {a : Act} {K : Act → World → Prop} {Q : Exit → Act → World → Prop} {E : Prop} (hgd : o.guard = none) (s x : Operand) (t : TypeId)
    (ho : o.op = .call { callee := .builtin .append, args := #[s, x], argTypes := #[t, t] })
    (B : Nat) (e : TypeId) (z : Value) (size bytes : Nat) (ht : P.underlying t = some (.slice e)) (hinfo : (P.info? e).map (fun i => (i.zero, i.size, i.bytes)) = some (some z, size, bytes)) (hzs : z.cells.size = size) (hsz : 0 < size)
    (v : Value) (n : Nat) (xs : List Value) (hs : a.eval s = v) (hown : w.ownsRow B e size v n xs)
    (ad : Addr) (m c : Nat) (news : List Value) (hx : a.eval x = .slice (some ad) m c) (hl : news.length = m * size) (hnews : ∀ j u, news[j]? = some u → w.cell? (ad.add j) = some u) (h1 : ∀ u ∈ news, u.oneCell' = true)
    (hbytes : (n + m) * (bytes + 1) ≤ 140737488355328) (hbase : B ≤ w.heap.size) (hbel : Below B w0 w)
    (h : ∀ v' w', w'.ownsRow B e size v' (n + m) (xs ++ news) → Below B w0 w' → K (a.put o.dst v') w') : if Region.wanted o (yielded ops a.tmps) = true then Oper.wp P o a w K Q else E := by
  have hw : Region.wanted o (yielded ops a.tmps) = true := by simp [Region.wanted, hgd]
  rw [if_pos hw]
  obtain ⟨i0, hi, hz0, hz1, hz2⟩ := info_parts hinfo
  have hnm : n + m ≤ (n + m) * (bytes + 1) := Nat.le_mul_of_pos_right _ (by omega)
  have hb2 : (n + m) * bytes ≤ (n + m) * (bytes + 1) := Nat.mul_le_mul_left _ (by omega)
  obtain ⟨v', w', hr, h2, h3, h4, h5⟩ := run_append_own_at (P := P) w B t o.type e i0 z size bytes ht hi hz0 hz1 hz2 hzs hsz v n xs hown ad m c news hl hnews h1 (by unfold maxLen; omega) (by omega) hbase
  unfold Oper.wp execOp
  simp only [ho, resolve, invoke, builtin, Sem.run_bind, Sem.run_pure, Result.andThen_ok, List.map_toArray, List.map_cons, List.map_nil, hs, hx, hr]
  exact h v' w' h2 (hbel.grown h3 hbase (fun k hk => (hown.lt k hk).1))
theorem own_sliceP {w : World} {B : Nat} {e : TypeId} {size : Nat} {v : Value} {n : Nat} {xs : List Value} (h : w.ownsRow B e size v n xs) : ∃ A c, v = .slice A n c := by
  rcases h.2 with ⟨h1, h2⟩ | ⟨g, cap, cur, hv, _⟩
  · exact ⟨none, 0, by rw [h1, h2]⟩
  · exact ⟨_, _, hv⟩
theorem infoPart : (Tryd.prog.info? 39).map (fun i => (i.zero, i.size, i.bytes)) = some (some (.agg #[.string ⟨#[]⟩, .int .i64 0, .int .i64 0]), 3, 32) := by kernel_rfl
def partV (l : List DPart) : List Value := (l.map DPart.cells).flatten
theorem partV_len (l : List DPart) : (partV l).length = l.length * 3 := by
  unfold partV
  rw [flatten_length (cellsPart_len l), List.length_map]
theorem partV_one (l : List DPart) : ∀ u ∈ partV l, u.oneCell' = true := one_of_rows (fun cs hcs u hu => by
  obtain ⟨x, _, rfl⟩ := List.mem_map.1 hcs
  simp only [DPart.cells, List.mem_cons, List.not_mem_nil, or_false] at hu
  rcases hu with rfl | rfl | rfl <;> rfl)
theorem part_src {w : World} {b o : Nat} {xs : List DPart} (h : RowsAt w 3 (some ⟨b, o, none⟩) (xs.map DPart.cells)) (p m : Nat) : SrcAt w (some ⟨b, o + p, none⟩) (((partV xs).drop p).take m) := ((h.src (cellsPart_len xs) (by omega)).drop p).take m

set_option maxHeartbeats 1600000 in
set_option maxRecDepth 100000 in
theorem partOf_ok (A : Option Addr) (c n : Nat) (xs : List DPart) (w : World) (hA : RowsAt w 3 A (xs.map DPart.cells)) (hX : DrwB xs) (hn : xs.length = n) (k : Nat) (x : DPart) (hk : xs[k]? = some x) :
    Calls Tryd.prog 90 #[.slice A n c, .string x.fId] w fun e w' => e = .returned (.int .i64 (k : Int)) ∧ Below w.heap.size w w' := by
  have HA := hid hA
  have HX := hid hX
  have HN := hid hn
  obtain ⟨n1, n6⟩ := drwB_n hX hn
  clear hA hX hn
  have HK := hid hk
  have hkn : k < n := by rw [← HN.out]; exact (List.getElem?_eq_some_iff.1 hk).1
  clear hk
  go_enter Tryd.func90, Tryd.ntmps90
  go_wp2_with fail
  go_loopw [9] (fun i wr => ∃ j : Nat, j ≤ k ∧ i = .int .i64 (j : Int) ∧ Below w.heap.size w wr) (fun i _ => n - (intOf i).toNat)
  case atStart => exact ⟨0, Nat.zero_le _, rfl, Below.refl _ _⟩
  case round =>
    obtain ⟨j, hj, rfl, hbel⟩ := hrel
    obtain ⟨y, hy⟩ : ∃ y, xs[j]? = some y := ⟨_, List.getElem?_eq_getElem (by rw [HN.out]; omega)⟩
    obtain ⟨ab, ao, rfl, hAt⟩ := PartAt.of_rows (HA.out.below hbel) hy
    obtain ⟨hl0, x0, x1, x2⟩ := hAt
    have HB := hid (below_trans hbel (below_alloc wr (.cells #[.string y.fId, .int .i64 y.fAt, .int .i64 y.fMass] 39)))
    have q0 : (0 : Int) ≤ (j : Int) := by omega
    have q1 : (j : Int) < n := by omega
    rcases Nat.lt_or_ge j k with hlt | hge
    · have dne := less_ne (HX.out.up j k y x hy HK.out hlt)
      clear hy hbel
      go_wp2_with fail
      go_roundw
      case rel => exact ⟨j + 1, by omega, by go_num, HB.out⟩
      case measure => simp [intOf]; omega
    · have e : j = k := by omega
      subst e
      rw [HK.out] at hy
      injection hy with hy
      subst hy
      have deq : (x.fId.toList == x.fId.toList) = true := beq_self_eq_true _
      clear hbel hge hj
      go_wp2_with fail
      go_ret
      exact ⟨rfl, HB.out⟩

/-- MovedPart answers -/
def MovQ (M rest m g r d : Int) : Prop := (d = 0 ∧ (0 ≤ r ∧ r ≤ 8000) ∧ g * M ≤ rest + m * r ∧ (0 < r → rest + m * (r - 1) < g * M)) ∨ (d = 6 ∧ rest + m * 8000 < g * M)
set_option maxHeartbeats 1600000 in
set_option maxRecDepth 100000 in
theorem MovedPart_ok (A : Option Addr) (c n : Nat) (xs : List DPart) (w : World) (hA : RowsAt w 3 A (xs.map DPart.cells)) (hX : DrwB xs) (hn : xs.length = n) (k : Nat) (x : DPart) (hk : xs[k]? = some x) (M P g : Int) (hM : massL xs = M) (hP : momL xs = P) (hg : 0 ≤ g ∧ g ≤ 800) :
    Calls Tryd.prog 44 #[.slice A n c, .string x.fId, .int .i64 g] w fun e w' => (∃ r d : Int, e = .returned (.tuple #[.int .i64 r, .int .i64 d]) ∧ MovQ M (P - x.fMass * x.fAt) x.fMass g r d) ∧ Below w.heap.size w w' := by
  have HA := hid hA
  have HM := hid hM
  have HP := hid hP
  have HK := hid hk
  have b1 := mass_bd hX n (by omega)
  have b2 := mom_bd hX n (by omega)
  have b3 := massL_pos hX
  have b6 := mom_in hX hk
  have b7 := mom_one (hX.one x (List.mem_of_getElem? hk))
  obtain ⟨-, -, p0, p1, m0, m1⟩ := hX.one x (List.mem_of_getElem? hk)
  have hkn : k < n := by rw [← hn]; exact (List.getElem?_eq_some_iff.1 hk).1
  rw [hP] at b6
  unfold momP at b6 b7
  rw [← massL_n hn, hM] at b1
  rw [← momL_n hn, hP] at b2
  rw [hM] at b3
  have b4 := mulP (a := g) (b := M) (M := 800) (N := 240000) (by omega) (by omega)
  obtain ⟨g0, g1⟩ := hg
  have c2 : inB g 0 8000 = true := inB_iff.2 (by omega)
  have v0 : IntKind.i64.wrap (x.fMass * x.fAt) = x.fMass * x.fAt := IntWalk.i64_in _ (by omega)
  have v00 : IntKind.i64.wrap (P - x.fMass * x.fAt) = P - x.fMass * x.fAt := IntWalk.i64_in _ (by omega)
  have v1 : IntKind.i64.wrap (g * M) = g * M := IntWalk.i64_in _ (by omega)
  have v2 : IntKind.i64.wrap (g * M - (P - x.fMass * x.fAt)) = g * M - (P - x.fMass * x.fAt) := IntWalk.i64_in _ (by omega)
  have q0 : (0 : Int) ≤ (k : Int) := by omega
  have q1 : (k : Int) < n := by omega
  have q2 : ¬ (k : Int) < 0 := by omega
  clear hA hM hP hk
  go_enter Tryd.func44, Tryd.ntmps44
  go_wp2_with fail
  refine (ValidBow_ok A c n xs _ HA.out hX hn).mono ?_
  rintro e w1 ⟨rfl, hb1⟩
  have HB1 := hid hb1
  replace HA := hid (HA.out.below hb1)
  clear hb1
  go_wp2_with fail
  refine (isPlace_ok g _).mono ?_
  rintro e w2 ⟨rfl, rfl⟩
  rw [c2]
  go_wp2_with fail
  refine (partOf_ok A c n xs _ HA.out hX hn k x HK.out).mono ?_
  rintro e w2 ⟨rfl, hb2⟩
  replace HA := hid (HA.out.below hb2)
  replace HB1 := hid (below_trans HB1.out hb2)
  clear hb2
  obtain ⟨ab, ao, rfl, hAt⟩ := PartAt.of_rows HA.out HK.out
  obtain ⟨hl0, x0, x1, x2⟩ := hAt
  have hyn := PartAt.new w2 x 39
  have YY := hid hyn
  have HA2 := hid (HA.out.below (below_alloc w2 (.cells #[.string x.fId, .int .i64 x.fAt, .int .i64 x.fMass] 39)))
  have HB2 := hid (below_trans HB1.out (below_alloc w2 (.cells #[.string x.fId, .int .i64 x.fAt, .int .i64 x.fMass] 39)))
  clear hyn
  go_wp2_with fail
  refine (weigh_ok _ c n xs _ HA2.out hX hn M P HM.out HP.out).mono ?_
  rintro e w3 ⟨rfl, hb3⟩
  have HB3 := hid (below_trans HB2.out hb3)
  obtain ⟨hly, y0, y1, y2⟩ := YY.out.below hb3
  clear hb3 x0 x1 x2
  obtain ⟨nd, hnd⟩ : ∃ nd, g * M - (P - x.fMass * x.fAt) = nd := ⟨_, rfl⟩
  have HND := hid hnd
  by_cases h1 : nd ≤ 0
  · have h1' : g * M - (P - x.fMass * x.fAt) ≤ 0 := by omega
    have HQ := hid (show MovQ M (P - x.fMass * x.fAt) x.fMass g 0 0 from .inl ⟨rfl, ⟨by omega, by omega⟩, by rw [Int.mul_zero, Int.add_zero]; omega, fun h => absurd h (by omega)⟩)
    clear hnd
    go_wp2_with fail
    go_ret2
    exact ⟨⟨_, _, rfl, HQ.out⟩, HB3.out⟩
  have h1' : ¬ g * M - (P - x.fMass * x.fAt) ≤ 0 := by omega
  obtain ⟨r, hr⟩ : ∃ r, (nd + x.fMass - 1) / x.fMass = r := ⟨_, rfl⟩
  have hj := moved_just (need := nd) (m := x.fMass) (t := r) (by omega) (by omega) hr.symm
  have hr1 : r ≤ nd + x.fMass - 1 := by rw [← hr]; exact Int.ediv_le_self _ (by omega)
  have ht : (nd + x.fMass - 1).tdiv x.fMass = r := by rw [← hr]; exact Int.tdiv_eq_ediv_of_nonneg (by omega)
  rw [← hnd] at ht
  have v3 : IntKind.i64.wrap (g * M - (P - x.fMass * x.fAt) + x.fMass) = g * M - (P - x.fMass * x.fAt) + x.fMass := IntWalk.i64_in _ (by omega)
  have v4 : IntKind.i64.wrap (g * M - (P - x.fMass * x.fAt) + x.fMass - 1) = g * M - (P - x.fMass * x.fAt) + x.fMass - 1 := IntWalk.i64_in _ (by omega)
  have v5 : IntKind.i64.wrap r = r := IntWalk.i64_in _ (by omega)
  have e0 : ¬ x.fMass = 0 := by omega
  have e1 : ¬ x.fMass = -1 := by omega
  by_cases h3 : 8000 < r
  · have hmm : x.fMass * 8000 ≤ x.fMass * (r - 1) := Int.mul_le_mul_of_nonneg_left (by omega) (by omega)
    have HQ := hid (show MovQ M (P - x.fMass * x.fAt) x.fMass g 0 6 from .inr ⟨rfl, by omega⟩)
    clear hj hr1 hmm hnd hr
    go_wp2_with fail
    go_ret2
    exact ⟨⟨_, _, rfl, HQ.out⟩, HB3.out⟩
  · have HQ := hid (show MovQ M (P - x.fMass * x.fAt) x.fMass g r 0 from .inl ⟨rfl, ⟨by omega, by omega⟩, by omega, fun _ => by omega⟩)
    clear hj hr1 hnd hr
    go_wp2_with fail
    go_ret2
    exact ⟨⟨_, _, rfl, HQ.out⟩, HB3.out⟩

set_option maxHeartbeats 1600000 in
set_option maxRecDepth 100000 in
theorem clonePart_ok (b o n c : Nat) (news : List Value) (w : World) (hs : SrcAt w (some ⟨b, o, none⟩) news) (hlt : b < w.heap.size) (hl : news.length = n * 3) (hn : n ≤ 1048576) (h1 : ∀ u ∈ news, u.oneCell' = true) :
    Calls Tryd.prog 91 #[.slice (some ⟨b, o, none⟩) n c] w fun e w' => ∃ A' c', e = .returned (.slice A' n c') ∧ w'.ownsRow w.heap.size 39 3 (.slice A' n c') n news ∧ Below w.heap.size w w' := by
  obtain ⟨i0, hi, hz0, hz1, hz2⟩ := info_parts infoPart
  have HS0 := hid hs
  have H1 := hid h1
  clear hs h1
  go_enter Tryd.func91, Tryd.ntmps91
  go_wp2_with (first
    | (at_make; refine wpList_make_own _ rfl _ _ _ rfl w.heap.size 39 i0 (.agg #[.string ⟨#[]⟩, .int .i64 0, .int .i64 0]) 3 Tryd.underlying61 hi hz0 hz1 .i64 .i64 _ n rfl rfl rfl (by rw [hz2]; omega) (by unfold maxLen; omega) (Nat.le_refl _) ?_; intro w1 hown1 hg1; have HB := hid ((Below.refl _ _).grown hg1 (Nat.le_refl _) (fun k hk => by cases hk)); have HS := hid (HS0.out.below HB.out hlt); have HO1 := hid hown1; clear hg1 hown1)
    | (at_builtin; refine wpList_append_fits_any _ rfl _ _ 61 rfl w.heap.size 39 i0 3 Tryd.underlying61 hi hz1 _ 0 n [] rfl HO1.out (some ⟨b, o, none⟩) n c news rfl hl (fun h => by cases h) (fun ad had j u hu => fits_some HS.out had hu) H1.out (by omega) ?_; intro w2 hown2 hg2; simp only [Nat.zero_add, List.nil_append] at hown2))
  have HO := hid hown2
  have HB2 := hid (HB.out.grown hg2 HB.out.size (fun k hk => by injection hk with hk; subst hk; exact Nat.le_refl _))
  clear hown2 hg2
  (try go_wp2_with fail)
  go_ret
  exact ⟨_, _, rfl, HO.out, HB2.out⟩

def RetWo (w : World) (n : Nat) (e : Ending) (w' : World) : Prop := ((n = 1 ∧ e = .returned (.tuple #[.slice none 0 0, .int .i64 6])) ∨ (1 < n ∧ ∃ A' c', e = .returned (.tuple #[.slice A' (n - 1) c', .int .i64 0]))) ∧ Below w.heap.size w w'

end Go.Proofs.YtmfadjdpbobfhaaDoor
