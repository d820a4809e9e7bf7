/- ReachedOwners and its reference. -/
import Derived.Test.YtfagfohcbdlaeaaReach
import Derived.Maps.AppendAt
namespace Go.Proofs.Ytfagfohcbdlaeaa
open Go.RowKit
set_option linter.unusedVariables false

section
variable {P : Program} {wr w0 : World}
/-- as wpList_app, and which block the row then lies in -/
theorem wpList_app2 {ops : Array Oper} {rest : List Oper} {o : Oper} {a : Act} {Q : Exit → Act → World → Prop} (hgd : o.guard = none) (s x : Operand) (t : TypeId)
    (ho : o.op = .call { callee := .builtin .append, args := #[s, x], argTypes := #[t, t] })
    (B : Nat) (e : TypeId) (z : Value) (size bytes : Nat) (ht : P.underlying t = some (.slice e)) (hinfo : (P.info? e).map (fun i => (i.zero, i.size, i.bytes)) = some (some z, size, bytes)) (hzs : z.cells.size = size) (hsz : 0 < size)
    (v : Value) (n : Nat) (xs : List Value) (hs : a.eval s = v) (hown : wr.ownsRow B e size v n xs)
    (cs : Array Value) (m c : Nat) (hx : a.eval x = .slice (some ⟨wr.heap.size, 0, none⟩) m c) (hl : cs.size = m * size) (h1 : ∀ u ∈ cs.toList, u.oneCell' = true)
    (hbytes : (n + m) * (bytes + 1) ≤ 140737488355328) (hbase : B ≤ wr.heap.size) (hbel : Below B w0 wr)
    (h : ∀ v' w', w'.ownsRow B e size v' (n + m) (xs ++ cs.toList) → Below B w0 w' → (wr.alloc (.cells cs e)).grownBy w' v.ownBlock → (v'.ownBlock = v.ownBlock ∨ v'.ownBlock = some (wr.heap.size + 1)) → wpList P ops Q rest (a.put o.dst v') w') : wpList P ops Q (o :: rest) a (wr.alloc (.cells cs e)) := by
  obtain ⟨i0, hi, hz0, hz1, hz2⟩ := info_parts hinfo
  have hnm : n + m ≤ (n + m) * (bytes + 1) := Nat.le_mul_of_pos_right _ (by omega)
  have hb2 : (n + m) * bytes ≤ (n + m) * (bytes + 1) := Nat.mul_le_mul_left _ (by omega)
  refine wpList_append_own_at _ hgd s x t ho B e i0 z size bytes ht hi hz0 hz1 hz2 hzs hsz v n xs hs (hown.alloc _) ⟨wr.heap.size, 0, none⟩ m c cs.toList hx (by simpa using hl) ?_ h1 (by unfold maxLen; omega) (by omega) (by simp; omega) ?_
  · intro j u hu
    have hadd : (⟨wr.heap.size, 0, none⟩ : Addr).add j = ⟨wr.heap.size, j, none⟩ := by unfold Addr.add; split <;> simp_all
    rw [hadd, cell_of_row _ _ _ cs e (0, 0) (heap_alloc_new wr _)]
    simpa using hu
  · intro v' w' g1 g2 _ g4
    refine h v' w' g1 ((hbel.alloc hbase _).grown g2 (by simp; omega) (fun k hk => (hown.lt k hk).1)) g2 ?_
    rcases g4 with g4 | g4
    · exact .inl g4
    · right
      rw [g4]
      simp
end
/-- two rows of the call's own, in blocks apart -/
theorem two_kept {w w' : World} {B : Nat} {e : TypeId} {size : Nat} {v v2 v' : Value} {n : Nat} {xs : List Value} {o : Obj} (h : w.ownsRow B e size v2 n xs) (hne : v2.ownBlock ≠ v.ownBlock) (hg : (w.alloc o).grownBy w' v.ownBlock) (hb : v'.ownBlock = v.ownBlock ∨ v'.ownBlock = some (w.heap.size + 1)) : w'.ownsRow B e size v2 n xs ∧ v2.ownBlock ≠ v'.ownBlock := by
  refine ⟨(h.alloc o).kept hg (.inr hne), ?_⟩
  rcases hb with hb | hb
  · rw [hb]; exact hne
  · rw [hb]
    intro e2
    have := (h.lt _ e2).2
    omega

def bestOf (l : DLink) : Int := if l.has then l.doubt else -1

set_option maxHeartbeats 3200000 in
set_option maxRecDepth 100000 in
theorem l19Best_ok (A : Option Addr) (c : Nat) (xs : List DDeed) (s : ByteArray) (w : World) (hA : RowsAt w 4 A (xs.map DDeed.cells)) (hh : DeedsTo xs xs.length) (h16 : xs.length ≤ 16) :
    Calls Try.prog 89 #[.slice A xs.length c, .string s] w fun e w' => (∃ g1 c1 v2, e = .returned (.tuple #[.slice g1 xs.length c1, v2]) ∧ w'.ownsRow w.heap.size 2 1 (.slice g1 xs.length c1) xs.length (((linksTo xs s xs.length).map bestOf).map (Value.int .i64))) ∧ Below w.heap.size w w' := by
  have HA := hid hA
  have HH := hid hh
  clear hA hh
  go_enter Try.func89, Try.ntmps89
  go_wp2_with fail
  go_loopw [6, 7, 8] (fun v v2 m wr => ∃ (k : Nat) (A1 : Option Addr) (c1 : Nat), k ≤ xs.length ∧ m = .int .i64 k ∧ v = .slice A1 k c1 ∧ wr.ownsRow w.heap.size 2 1 (.slice A1 k c1) k (((linksTo xs s k).map bestOf).map (Value.int .i64)) ∧ wr.ownsRow w.heap.size 2 1 (v2) k (((linksTo xs s k).map DLink.before).map (Value.int .i64)) ∧ v2.ownBlock ≠ (Value.slice A1 k c1).ownBlock ∧ Below w.heap.size w wr) (fun _ _ m _ => xs.length - (intOf m).toNat)
  case atStart =>
    refine ⟨0, some ⟨w.heap.size, 0, none⟩, 0, Nat.zero_le _, rfl, rfl, (World.ownsRow_lit w #[] 0 (Nat.le_refl _) (by unfold maxLen; omega) rfl).alloc _, ?_, ?_, (below_alloc w _).trans ((below_alloc _ _).mono (by simp))⟩
    · have h : ((w.alloc (.cells #[] 2)).alloc (.cells #[] 2)).ownsRow (w.alloc (.cells #[] 2)).heap.size 2 1 (.slice (some ⟨(w.alloc (.cells #[] 2)).heap.size, 0, none⟩) 0 0) 0 (([] : List Int).map (Value.int .i64)) := World.ownsRow_lit _ _ 0 (Nat.le_refl _) (by unfold maxLen; omega) rfl
      have h2 := own_mono h (show w.heap.size ≤ (w.alloc (.cells #[] 2)).heap.size by simp)
      rw [show (w.alloc (.cells #[] 2)).heap.size = w.heap.size + 1 by simp] at h2
      exact h2
    · intro e
      simp [Value.ownBlock] at e
  case round =>
    obtain ⟨k, A1, c1, hk, rfl, rfl, hown, hown2, hne, hbel⟩ := hrel
    have HO := hid hown
    have HO2 := hid hown2
    have HNE := hid hne
    have HB := hid hbel
    have LK := hid (linksTo_len (s := s) hk)
    clear hown hown2 hne hbel
    by_cases hkl : k < xs.length
    · rename World => wo
      have hne : xs.map DDeed.cells ≠ [] := by intro e; rw [List.map_eq_nil_iff] at e; rw [e] at hkl; exact absurd hkl (by simp)
      obtain ⟨b, o, rfl, hlt, hc⟩ := (HA.out.below HB.out) hne
      have HC := hid hc
      have hc0 : wo.cell? ⟨b, o + k * 4, none⟩ = some (.string xs[k].fFrom) := HC.out k _ (by rw [List.getElem?_map, List.getElem?_eq_getElem hkl]; rfl) 0 _ rfl
      have hc1 : wo.cell? ⟨b, o + k * 4 + 1, none⟩ = some (.string xs[k].fTo) := HC.out k _ (by rw [List.getElem?_map, List.getElem?_eq_getElem hkl]; rfl) 1 _ rfl
      have hc2 : wo.cell? ⟨b, o + k * 4 + 2, none⟩ = some (.int .i64 xs[k].fYear) := HC.out k _ (by rw [List.getElem?_map, List.getElem?_eq_getElem hkl]; rfl) 2 _ rfl
      have hc3 : wo.cell? ⟨b, o + k * 4 + 3, none⟩ = some (.int .i64 xs[k].fDoubt) := HC.out k _ (by rw [List.getElem?_map, List.getElem?_eq_getElem hkl]; rfl) 3 _ rfl
      have q0 : (0 : Int) ≤ (k : Int) := by omega
      have q1 : (k : Int) < xs.length := by omega
      clear hc hne
      have AX := hid (HA.out.below HB.out)
      have hdk := deed_doubt (HH.out k hkl hkl).1
      have BD := hid (links_bd (s := s) HH.out hk)
      have HBI := hid (show bestOf (linkI xs (linksTo xs s k) s xs[k] 0) = (if (xs[k].fFrom.toList == s.toList) = true then xs[k].fDoubt else -1) from rfl)
      have HPI := hid (show (linkI xs (linksTo xs s k) s xs[k] 0).before = -1 from rfl)
      cases d0 : (xs[k].fFrom.toList == s.toList)
      · have HD0 := hid d0
        go_wp2_with fail
        go_loopw [9, 10, 11] (fun vb vp m ws => ∃ q : Nat, q ≤ k ∧ m = .int .i64 q ∧ vb = .int .i64 (bestOf (linkI xs (linksTo xs s k) s xs[k] q)) ∧ vp = .int .i64 (linkI xs (linksTo xs s k) s xs[k] q).before ∧ Below wo.heap.size wo ws) (fun _ _ m _ => k - (intOf m).toNat)
        case atStart => exact ⟨0, Nat.zero_le _, rfl, by rw [HBI.out, if_neg (by rw [HD0.out]; exact fun h => by cases h)], by rw [HPI.out], Below.refl _ _⟩
        case round =>
          obtain ⟨q, hq, rfl, rfl, rfl, hbel⟩ := hrel
          have HW := hid hbel
          clear hbel
          obtain ⟨⟨lh, ld, lbf⟩, hl⟩ : ∃ l, l = linkI xs (linksTo xs s k) s xs[k] q := ⟨_, rfl⟩
          have HLL := hid hl
          have LB := hid (linkI_bd (xs := xs) (s := s) (x := xs[k]) BD.out hdk (j := q) (by have := LK.out; omega))
          rw [← hl] at LB
          rw [← hl]
          clear hl
          by_cases hql : q < k
          · have O2 := hid (own_below HO.out HW.out)
            obtain ⟨g, cap, hv, hgB, hgl, _⟩ := own_form O2.out (by omega)
            obtain ⟨rfl, rfl⟩ : A1 = some ⟨g, 0, none⟩ ∧ c1 = cap := by injection hv with a1 a2 a3; exact ⟨a1, a3⟩
            have hqo : q < (linksTo xs s k).length := by have := LK.out; omega
            have hqx : q < xs.length := by omega
            obtain ⟨⟨oh, od, obf⟩, hol⟩ : ∃ ol, ol = (linksTo xs s k)[q] := ⟨_, rfl⟩
            have e0 : wr.cell? ⟨g, q, none⟩ = some (.int .i64 (bestOf ⟨oh, od, obf⟩)) := by
              rw [O2.out.cellAt q (by omega), List.getElem?_map, List.getElem?_map, List.getElem?_eq_getElem hqo, ← hol]
              rfl
            obtain ⟨b2, o2, hA2, hlt2, hc2⟩ := (AX.out.below HW.out) (by intro e; rw [List.map_eq_nil_iff] at e; rw [e] at hqx; exact absurd hqx (by simp))
            injection hA2 with hA2
            injection hA2 with hA2 hoo
            subst hA2 hoo
            have t1 : wr.cell? ⟨b, o + q * 4 + 1, none⟩ = some (.string xs[q].fTo) := hc2 q xs[q].cells (by rw [List.getElem?_map, List.getElem?_eq_getElem hqx]; rfl) 1 _ rfl
            have x0 : wr.cell? ⟨b, o + k * 4, none⟩ = some (.string xs[k].fFrom) := hc2 k xs[k].cells (by rw [List.getElem?_map, List.getElem?_eq_getElem hkl]; rfl) 0 _ rfl
            have x3 : wr.cell? ⟨b, o + k * 4 + 3, none⟩ = some (.int .i64 xs[k].fDoubt) := hc2 k xs[k].cells (by rw [List.getElem?_map, List.getElem?_eq_getElem hkl]; rfl) 3 _ rfl
            have p0 : (0 : Int) ≤ (q : Int) := by omega
            have p1 : (q : Int) < k := by omega
            have p2 : (q : Int) < xs.length := by omega
            have ob := BD.out q hqo
            rw [← hol] at ob
            have lb := LB.out
            dsimp only at ob lb
            have w1 : IntKind.i64.wrap (od + xs[k].fDoubt) = od + xs[k].fDoubt := IntWalk.i64_in _ (by omega)
            have HOL := hid hol
            have HST := hid (show stepB xs (linksTo xs s k)[q] (linkI xs (linksTo xs s k) s xs[k] q) xs[k] xs[q] = stepB xs ⟨oh, od, obf⟩ ⟨lh, ld, lbf⟩ xs[k] xs[q] by rw [← hol, ← HLL.out])
            clear hol hv hc2
            cases d2 : (xs[q].fTo.toList == xs[k].fFrom.toList)
            · have HN := hid (show linkI xs (linksTo xs s k) s xs[k] (q + 1) = ⟨lh, ld, lbf⟩ by rw [linkI_no hqx hqo (by rw [HST.out, stepB, d2]; cases oh <;> rfl)]; exact HLL.out.symm)
              go_wp2_with fail
              go_quiet (fail)
              go_wp2_with fail
              go_roundw
              case rel => exact ⟨q + 1, by omega, by go_num, by rw [HN.out], by rw [HN.out], below_drewN' HW.out _⟩
              case measure => simp [intOf]; omega
            · cases oh
              · have HN := hid (show linkI xs (linksTo xs s k) s xs[k] (q + 1) = ⟨lh, ld, lbf⟩ by rw [linkI_no hqx hqo (by rw [HST.out, stepB]; rfl)]; exact HLL.out.symm)
                have e9 : bestOf ⟨false, od, obf⟩ = -1 := rfl
                rw [e9] at e0
                clear e9
                go_wp2_with fail
                go_quiet (fail)
                go_wp2_with fail
                go_roundw
                case rel => exact ⟨q + 1, by omega, by go_num, by rw [HN.out], by rw [HN.out], below_drewN' HW.out _⟩
                case measure => simp [intOf]; omega
              · have e9 : bestOf ⟨true, od, obf⟩ = od := rfl
                rw [e9] at e0
                clear e9
                cases lh
                · have HN := hid (show linkI xs (linksTo xs s k) s xs[k] (q + 1) = ⟨true, od + xs[k].fDoubt, (q : Int)⟩ by rw [linkI_yes hqx hqo (by rw [HST.out, stepB, d2]; rfl), ← HOL.out])
                  have e9 : bestOf ⟨false, ld, lbf⟩ = -1 := rfl
                  rw [e9]
                  clear e9
                  go_wp2_with fail
                  go_quiet (fail)
                  go_wp2_with fail
                  go_quiet (fail)
                  go_wp2_with fail
                  go_roundw
                  case rel => exact ⟨q + 1, by omega, by go_num, by rw [HN.out]; rfl, by rw [HN.out], below_drewN' HW.out _⟩
                  case measure => simp [intOf]; omega
                · have e9 : bestOf ⟨true, ld, lbf⟩ = ld := rfl
                  have E9 := hid e9
                  rw [e9]
                  clear e9
                  by_cases d4 : od + xs[k].fDoubt < ld
                  · have HN := hid (show linkI xs (linksTo xs s k) s xs[k] (q + 1) = ⟨true, od + xs[k].fDoubt, (q : Int)⟩ by rw [linkI_yes hqx hqo (by rw [HST.out, stepB, d2, decide_eq_true d4]; rfl), ← HOL.out])
                    have d6 : decide (ld < 0) = false := by simp; omega
                    go_wp2_with fail
                    go_quiet (fail)
                    go_wp2_with fail
                    go_quiet (fail)
                    go_wp2_with fail
                    go_roundw
                    case rel => exact ⟨q + 1, by omega, by go_num, by rw [HN.out]; rfl, by rw [HN.out], below_drewN' HW.out _⟩
                    case measure => simp [intOf]; omega
                  · have HN := hid (show linkI xs (linksTo xs s k) s xs[k] (q + 1) = ⟨true, ld, lbf⟩ by rw [linkI_no hqx hqo (by rw [HST.out, stepB, d2, decide_eq_false d4]; rfl)]; exact HLL.out.symm)
                    have d5 : decide (od + xs[k].fDoubt < ld) = false := decide_eq_false d4
                    have d6 : decide (ld < 0) = false := by simp; omega
                    go_wp2_with fail
                    go_quiet (fail)
                    go_wp2_with fail
                    go_quiet (fail)
                    go_wp2_with fail
                    go_roundw
                    case rel => exact ⟨q + 1, by omega, by go_num, by rw [HN.out]; exact congrArg _ E9.out.symm, by rw [HN.out], below_drewN' HW.out _⟩
                    case measure => simp [intOf]; omega
          · have hq2 : q = k := by omega
            subst hq2
            have O1 := hid (own_below HO.out HW.out)
            have O2 := hid (own_below HO2.out HW.out)
            have B2 := hid (below_trans HB.out HW.out)
            have HE := hid (show ((linksTo xs s q).map bestOf).map (Value.int .i64) ++ [.int .i64 (bestOf ⟨lh, ld, lbf⟩)] = ((linksTo xs s (q + 1)).map bestOf).map (Value.int .i64) by
              rw [linksTo_succ hkl, List.map_append, List.map_append, ← HLL.out]
              rfl)
            have HE2 := hid (show ((linksTo xs s q).map DLink.before).map (Value.int .i64) ++ [.int .i64 lbf] = ((linksTo xs s (q + 1)).map DLink.before).map (Value.int .i64) by
              rw [linksTo_succ hkl, List.map_append, List.map_append, ← HLL.out]
              rfl)
            obtain ⟨bb, hbb⟩ : ∃ bb, bb = bestOf ⟨lh, ld, lbf⟩ := ⟨_, rfl⟩
            rw [← hbb] at HE
            rw [← hbb]
            clear hbb
            go_wp2_with (first
              | (at_builtin; refine wpList_app2 (w0 := w) rfl (.tmp 79) (.tmp 81) 46 rfl w.heap.size 2 (.int .i64 0) 1 8 Try.underlying46 infoI rfl (by decide) _ _ _ rfl K2.out.1 #[.int .i64 lbf] 1 1 rfl rfl (by simp [Value.oneCell']) (by omega) B6.out.size B6.out ?_; intro v7 w7 hown7 hbel7 hg7 hb7; have K1 := hid (two_kept O6.out (fun e => K2.out.2 e.symm) hg7 hb7))
              | (at_builtin; refine wpList_app2 (w0 := w) rfl (.tmp 75) (.tmp 77) 46 rfl w.heap.size 2 (.int .i64 0) 1 8 Try.underlying46 infoI rfl (by decide) _ _ _ rfl O1.out #[.int .i64 bb] 1 1 rfl rfl (by simp [Value.oneCell']) (by omega) B2.out.size B2.out ?_; intro v6 w6 hown6 hbel6 hg6 hb6; have K2 := hid (two_kept O2.out HNE.out hg6 hb6); have O6 := hid hown6; have B6 := hid hbel6; clear hown6 hbel6 hg6 hb6))
            go_roundw
            case rel =>
              obtain ⟨g6, c6, hv6, _⟩ := own_form O6.out (by omega)
              subst hv6
              exact ⟨q + 1, some ⟨g6, 0, none⟩, c6, by omega, by go_num, rfl, by rw [← HE.out]; exact K1.out.1, by rw [← HE2.out]; exact hown7, fun e => K1.out.2 e.symm, hbel7⟩
            case measure => simp [intOf]; omega
      · have HD0 := hid d0
        go_wp2_with fail
        go_loopw [9, 10, 11] (fun vb vp m ws => ∃ q : Nat, q ≤ k ∧ m = .int .i64 q ∧ vb = .int .i64 (bestOf (linkI xs (linksTo xs s k) s xs[k] q)) ∧ vp = .int .i64 (linkI xs (linksTo xs s k) s xs[k] q).before ∧ Below wo.heap.size wo ws) (fun _ _ m _ => k - (intOf m).toNat)
        case atStart => exact ⟨0, Nat.zero_le _, rfl, by rw [HBI.out, if_pos HD0.out], by rw [HPI.out], Below.refl _ _⟩
        case round =>
          obtain ⟨q, hq, rfl, rfl, rfl, hbel⟩ := hrel
          have HW := hid hbel
          clear hbel
          obtain ⟨⟨lh, ld, lbf⟩, hl⟩ : ∃ l, l = linkI xs (linksTo xs s k) s xs[k] q := ⟨_, rfl⟩
          have HLL := hid hl
          have LB := hid (linkI_bd (xs := xs) (s := s) (x := xs[k]) BD.out hdk (j := q) (by have := LK.out; omega))
          rw [← hl] at LB
          rw [← hl]
          clear hl
          by_cases hql : q < k
          · have O2 := hid (own_below HO.out HW.out)
            obtain ⟨g, cap, hv, hgB, hgl, _⟩ := own_form O2.out (by omega)
            obtain ⟨rfl, rfl⟩ : A1 = some ⟨g, 0, none⟩ ∧ c1 = cap := by injection hv with a1 a2 a3; exact ⟨a1, a3⟩
            have hqo : q < (linksTo xs s k).length := by have := LK.out; omega
            have hqx : q < xs.length := by omega
            obtain ⟨⟨oh, od, obf⟩, hol⟩ : ∃ ol, ol = (linksTo xs s k)[q] := ⟨_, rfl⟩
            have e0 : wr.cell? ⟨g, q, none⟩ = some (.int .i64 (bestOf ⟨oh, od, obf⟩)) := by
              rw [O2.out.cellAt q (by omega), List.getElem?_map, List.getElem?_map, List.getElem?_eq_getElem hqo, ← hol]
              rfl
            obtain ⟨b2, o2, hA2, hlt2, hc2⟩ := (AX.out.below HW.out) (by intro e; rw [List.map_eq_nil_iff] at e; rw [e] at hqx; exact absurd hqx (by simp))
            injection hA2 with hA2
            injection hA2 with hA2 hoo
            subst hA2 hoo
            have t1 : wr.cell? ⟨b, o + q * 4 + 1, none⟩ = some (.string xs[q].fTo) := hc2 q xs[q].cells (by rw [List.getElem?_map, List.getElem?_eq_getElem hqx]; rfl) 1 _ rfl
            have x0 : wr.cell? ⟨b, o + k * 4, none⟩ = some (.string xs[k].fFrom) := hc2 k xs[k].cells (by rw [List.getElem?_map, List.getElem?_eq_getElem hkl]; rfl) 0 _ rfl
            have x3 : wr.cell? ⟨b, o + k * 4 + 3, none⟩ = some (.int .i64 xs[k].fDoubt) := hc2 k xs[k].cells (by rw [List.getElem?_map, List.getElem?_eq_getElem hkl]; rfl) 3 _ rfl
            have p0 : (0 : Int) ≤ (q : Int) := by omega
            have p1 : (q : Int) < k := by omega
            have p2 : (q : Int) < xs.length := by omega
            have ob := BD.out q hqo
            rw [← hol] at ob
            have lb := LB.out
            dsimp only at ob lb
            have w1 : IntKind.i64.wrap (od + xs[k].fDoubt) = od + xs[k].fDoubt := IntWalk.i64_in _ (by omega)
            have HOL := hid hol
            have HST := hid (show stepB xs (linksTo xs s k)[q] (linkI xs (linksTo xs s k) s xs[k] q) xs[k] xs[q] = stepB xs ⟨oh, od, obf⟩ ⟨lh, ld, lbf⟩ xs[k] xs[q] by rw [← hol, ← HLL.out])
            clear hol hv hc2
            cases d2 : (xs[q].fTo.toList == xs[k].fFrom.toList)
            · have HN := hid (show linkI xs (linksTo xs s k) s xs[k] (q + 1) = ⟨lh, ld, lbf⟩ by rw [linkI_no hqx hqo (by rw [HST.out, stepB, d2]; cases oh <;> rfl)]; exact HLL.out.symm)
              go_wp2_with fail
              go_quiet (fail)
              go_wp2_with fail
              go_roundw
              case rel => exact ⟨q + 1, by omega, by go_num, by rw [HN.out], by rw [HN.out], below_drewN' HW.out _⟩
              case measure => simp [intOf]; omega
            · cases oh
              · have HN := hid (show linkI xs (linksTo xs s k) s xs[k] (q + 1) = ⟨lh, ld, lbf⟩ by rw [linkI_no hqx hqo (by rw [HST.out, stepB]; rfl)]; exact HLL.out.symm)
                have e9 : bestOf ⟨false, od, obf⟩ = -1 := rfl
                rw [e9] at e0
                clear e9
                go_wp2_with fail
                go_quiet (fail)
                go_wp2_with fail
                go_roundw
                case rel => exact ⟨q + 1, by omega, by go_num, by rw [HN.out], by rw [HN.out], below_drewN' HW.out _⟩
                case measure => simp [intOf]; omega
              · have e9 : bestOf ⟨true, od, obf⟩ = od := rfl
                rw [e9] at e0
                clear e9
                cases lh
                · have HN := hid (show linkI xs (linksTo xs s k) s xs[k] (q + 1) = ⟨true, od + xs[k].fDoubt, (q : Int)⟩ by rw [linkI_yes hqx hqo (by rw [HST.out, stepB, d2]; rfl), ← HOL.out])
                  have e9 : bestOf ⟨false, ld, lbf⟩ = -1 := rfl
                  rw [e9]
                  clear e9
                  go_wp2_with fail
                  go_quiet (fail)
                  go_wp2_with fail
                  go_quiet (fail)
                  go_wp2_with fail
                  go_roundw
                  case rel => exact ⟨q + 1, by omega, by go_num, by rw [HN.out]; rfl, by rw [HN.out], below_drewN' HW.out _⟩
                  case measure => simp [intOf]; omega
                · have e9 : bestOf ⟨true, ld, lbf⟩ = ld := rfl
                  have E9 := hid e9
                  rw [e9]
                  clear e9
                  by_cases d4 : od + xs[k].fDoubt < ld
                  · have HN := hid (show linkI xs (linksTo xs s k) s xs[k] (q + 1) = ⟨true, od + xs[k].fDoubt, (q : Int)⟩ by rw [linkI_yes hqx hqo (by rw [HST.out, stepB, d2, decide_eq_true d4]; rfl), ← HOL.out])
                    have d6 : decide (ld < 0) = false := by simp; omega
                    go_wp2_with fail
                    go_quiet (fail)
                    go_wp2_with fail
                    go_quiet (fail)
                    go_wp2_with fail
                    go_roundw
                    case rel => exact ⟨q + 1, by omega, by go_num, by rw [HN.out]; rfl, by rw [HN.out], below_drewN' HW.out _⟩
                    case measure => simp [intOf]; omega
                  · have HN := hid (show linkI xs (linksTo xs s k) s xs[k] (q + 1) = ⟨true, ld, lbf⟩ by rw [linkI_no hqx hqo (by rw [HST.out, stepB, d2, decide_eq_false d4]; rfl)]; exact HLL.out.symm)
                    have d5 : decide (od + xs[k].fDoubt < ld) = false := decide_eq_false d4
                    have d6 : decide (ld < 0) = false := by simp; omega
                    go_wp2_with fail
                    go_quiet (fail)
                    go_wp2_with fail
                    go_quiet (fail)
                    go_wp2_with fail
                    go_roundw
                    case rel => exact ⟨q + 1, by omega, by go_num, by rw [HN.out]; exact congrArg _ E9.out.symm, by rw [HN.out], below_drewN' HW.out _⟩
                    case measure => simp [intOf]; omega
          · have hq2 : q = k := by omega
            subst hq2
            have O1 := hid (own_below HO.out HW.out)
            have O2 := hid (own_below HO2.out HW.out)
            have B2 := hid (below_trans HB.out HW.out)
            have HE := hid (show ((linksTo xs s q).map bestOf).map (Value.int .i64) ++ [.int .i64 (bestOf ⟨lh, ld, lbf⟩)] = ((linksTo xs s (q + 1)).map bestOf).map (Value.int .i64) by
              rw [linksTo_succ hkl, List.map_append, List.map_append, ← HLL.out]
              rfl)
            have HE2 := hid (show ((linksTo xs s q).map DLink.before).map (Value.int .i64) ++ [.int .i64 lbf] = ((linksTo xs s (q + 1)).map DLink.before).map (Value.int .i64) by
              rw [linksTo_succ hkl, List.map_append, List.map_append, ← HLL.out]
              rfl)
            obtain ⟨bb, hbb⟩ : ∃ bb, bb = bestOf ⟨lh, ld, lbf⟩ := ⟨_, rfl⟩
            rw [← hbb] at HE
            rw [← hbb]
            clear hbb
            go_wp2_with (first
              | (at_builtin; refine wpList_app2 (w0 := w) rfl (.tmp 79) (.tmp 81) 46 rfl w.heap.size 2 (.int .i64 0) 1 8 Try.underlying46 infoI rfl (by decide) _ _ _ rfl K2.out.1 #[.int .i64 lbf] 1 1 rfl rfl (by simp [Value.oneCell']) (by omega) B6.out.size B6.out ?_; intro v7 w7 hown7 hbel7 hg7 hb7; have K1 := hid (two_kept O6.out (fun e => K2.out.2 e.symm) hg7 hb7))
              | (at_builtin; refine wpList_app2 (w0 := w) rfl (.tmp 75) (.tmp 77) 46 rfl w.heap.size 2 (.int .i64 0) 1 8 Try.underlying46 infoI rfl (by decide) _ _ _ rfl O1.out #[.int .i64 bb] 1 1 rfl rfl (by simp [Value.oneCell']) (by omega) B2.out.size B2.out ?_; intro v6 w6 hown6 hbel6 hg6 hb6; have K2 := hid (two_kept O2.out HNE.out hg6 hb6); have O6 := hid hown6; have B6 := hid hbel6; clear hown6 hbel6 hg6 hb6))
            go_roundw
            case rel =>
              obtain ⟨g6, c6, hv6, _⟩ := own_form O6.out (by omega)
              subst hv6
              exact ⟨q + 1, some ⟨g6, 0, none⟩, c6, by omega, by go_num, rfl, by rw [← HE.out]; exact K1.out.1, by rw [← HE2.out]; exact hown7, fun e => K1.out.2 e.symm, hbel7⟩
            case measure => simp [intOf]; omega
    · have hk2 : k = xs.length := by omega
      subst hk2
      go_wp2_with fail
      go_ret2
      exact ⟨⟨_, _, _, rfl, HO.out⟩, HB.out⟩

set_option maxHeartbeats 1600000 in
set_option maxRecDepth 100000 in
theorem implReach_ok (A : Option Addr) (c : Nat) (xs : List DDeed) (s : ByteArray) (w : World) (hA : RowsAt w 4 A (xs.map DDeed.cells)) (hok : ∀ x ∈ xs, x.ok) (hn : xs.length ≤ 1048576) (hs : s.size ≤ maxLen) :
    Calls Try.prog 33 #[.slice A xs.length c, .string s] w (RetSC w (fReach xs s)) := by
  have HA := hid hA
  have HK := hid hok
  clear hA hok
  cases c1 : deedsB xs
  · have HF := hid (show fReach xs s = ([], 1) by unfold fReach; rw [if_pos (by rw [c1]; rfl)])
    go_enter Try.func33, Try.ntmps33
    go_wp2_with (go_at_call 77; refine (ValidDeeds_ok A c xs _ HA.out HK.out hn).mono ?_; rintro e w1 ⟨rfl, hb⟩; have B1 := hid hb; clear hb)
    go_ret2
    exact RetSC.nil HF.out B1.out
  cases c2 : nameB s
  · have HF := hid (show fReach xs s = ([], 1) by unfold fReach; rw [if_pos (by rw [c1, c2]; rfl)])
    go_enter Try.func33, Try.ntmps33
    go_wp2_with (first | (go_at_call 90; refine (IsName_ok _ _ hs).mono ?_; rintro e w' ⟨rfl, rfl⟩) | (go_at_call 77; refine (ValidDeeds_ok A c xs _ HA.out HK.out hn).mono ?_; rintro e w1 ⟨rfl, hb⟩; have B1 := hid hb; clear hb))
    go_ret2
    exact RetSC.nil HF.out B1.out
  have HF := hid (show fReach xs s = (setOf (namesN (reachN xs s) xs.length), 0) by unfold fReach; rw [if_neg (by rw [c1, c2]; exact fun h => by cases h)])
  have HH := hid (deedsB_iff.1 c1)
  have h16 := HH.out.2
  have LK := hid (linksTo_len (xs := xs) (s := s) (Nat.le_refl _))
  go_enter Try.func33, Try.ntmps33
  go_wp2_with (first | (go_at_call 91; refine (links_ok _ _ xs s _ ((HA.out.below B1.out).below (below_alloc _ _)) HH.out.1 h16).mono ?_; rintro e w2 ⟨⟨A2, c2', rfl, ho⟩, hb2⟩; have SO := hid ho; have B2 := hid hb2; have N0 := hid (own_below (show (w1.alloc (.cells #[] 9)).ownsRow w1.heap.size 9 1 (.slice (some ⟨w1.heap.size, 0, none⟩) 0 0) 0 (([] : List Str).map vS) from World.ownsRow_lit _ _ 0 (Nat.le_refl _) (by unfold maxLen; omega) rfl) hb2); have BN := hid ((below_alloc w1 (.cells #[] 9)).trans (hb2.mono (by simp))); clear ho hb2) | (go_at_call 90; refine (IsName_ok _ _ hs).mono ?_; rintro e w' ⟨rfl, rfl⟩) | (go_at_call 77; refine (ValidDeeds_ok A c xs _ HA.out HK.out hn).mono ?_; rintro e w1 ⟨rfl, hb⟩; have B1 := hid hb; clear hb))
  go_loopw [6, 22] (fun v m wr => ∃ (k g cc : Nat), k ≤ xs.length ∧ m = .int .i64 k ∧ v = .slice (some ⟨g, 0, none⟩) (namesN (reachN xs s) k).length cc ∧ wr.ownsRow w1.heap.size 9 1 (.slice (some ⟨g, 0, none⟩) (namesN (reachN xs s) k).length cc) (namesN (reachN xs s) k).length ((namesN (reachN xs s) k).map vS) ∧ wr.ownsRow (w1.alloc (.cells #[] 9)).heap.size 114 3 (.slice A2 xs.length c2') xs.length ((linksTo xs s xs.length).map DLink.cells).flatten ∧ (Value.slice A2 xs.length c2').ownBlock ≠ (Value.slice (some ⟨g, 0, none⟩) (namesN (reachN xs s) k).length cc).ownBlock ∧ Below w1.heap.size w1 wr) (fun _ m _ => xs.length - (intOf m).toNat)
  case atStart => exact ⟨0, _, _, Nat.zero_le _, rfl, rfl, N0.out, SO.out, fun e => by have h := (SO.out.lt _ e).1; simp at h; omega, BN.out⟩
  case round =>
    obtain ⟨k, g, cc, hk, rfl, rfl, hown, hown2, hne, hbel⟩ := hrel
    have HO := hid hown
    have HS := hid hown2
    have HNE := hid hne
    have HB := hid hbel
    have hnl : (namesN (reachN xs s) k).length ≤ 1 * k := namesN_len (reachN_len xs s) k
    clear hown hown2 hne hbel
    by_cases hkl : k < xs.length
    · obtain ⟨g2, cap, hv, _, _, _⟩ := own_form HS.out (by omega)
      obtain ⟨rfl, rfl⟩ : A2 = some ⟨g2, 0, none⟩ ∧ c2' = cap := by injection hv with a1 a2 a3; exact ⟨a1, a3⟩
      have hkL : k < (linksTo xs s xs.length).length := by rw [LK.out]; exact hkl
      obtain ⟨⟨oh, od, obf⟩, hol⟩ : ∃ ol, ol = (linksTo xs s xs.length)[k] := ⟨_, rfl⟩
      have hq? : ((linksTo xs s xs.length).map DLink.cells)[k]? = some (DLink.cells ⟨oh, od, obf⟩) := by rw [List.getElem?_map, List.getElem?_eq_getElem hkL, hol]; rfl
      have e0 : wr.cell? ⟨g2, k * 3, none⟩ = some (.bool oh) := by rw [HS.out.cellAt (k * 3) (by omega)]; exact (flatten_at (j := 0) (cellsLink_len _) hq? (by omega)).trans rfl
      have e1 : wr.cell? ⟨g2, k * 3 + 1, none⟩ = some (.int .i64 od) := by rw [HS.out.cellAt (k * 3 + 1) (by omega)]; exact (flatten_at (j := 1) (cellsLink_len _) hq? (by omega)).trans rfl
      have e2 : wr.cell? ⟨g2, k * 3 + 2, none⟩ = some (.int .i64 obf) := by rw [HS.out.cellAt (k * 3 + 2) (by omega)]; exact (flatten_at (j := 2) (cellsLink_len _) hq? (by omega)).trans rfl
      obtain ⟨b, o, rfl, hlt, hc⟩ := (((HA.out.below B1.out).below HB.out).below (below_alloc wr (.cells #[.bool oh, .int .i64 od, .int .i64 obf] 114))) (by intro e; rw [List.map_eq_nil_iff] at e; rw [e] at hkl; exact absurd hkl (by simp))
      have t1 := hc k xs[k].cells (by rw [List.getElem?_map, List.getElem?_eq_getElem hkl]; rfl) 1 (.string xs[k].fTo) rfl
      have NB := hid (HasC.new wr [.bool oh, .int .i64 od, .int .i64 obf] 114)
      have n0 := NB.out.2 0 _ rfl
      have O5 := hid (HO.out.alloc (.cells #[.bool oh, .int .i64 od, .int .i64 obf] 114))
      have S5 := hid (HS.out.alloc (.cells #[.bool oh, .int .i64 od, .int .i64 obf] 114))
      have B5 := hid (HB.out.alloc HB.out.size (.cells #[.bool oh, .int .i64 od, .int .i64 obf] 114))
      have q0 : (0 : Int) ≤ (k : Int) := by omega
      have q1 : (k : Int) < xs.length := by omega
      have HOL := hid hol
      clear hc hq? hol hv
      cases oh
      · have HE := hid (show namesN (reachN xs s) k = namesN (reachN xs s) (k + 1) by rw [namesN, reachN_no hkl hkL (by rw [← HOL.out]), List.append_nil])
        go_wp2_with fail
        go_roundw
        case rel => exact ⟨k + 1, g, cc, by omega, by go_num, by rw [← HE.out], by rw [← HE.out]; exact O5.out, S5.out, by rw [← HE.out]; exact HNE.out, B5.out⟩
        case measure => simp [intOf]; omega
      · have HE := hid (show (namesN (reachN xs s) k).map vS ++ [.string xs[k].fTo] = (namesN (reachN xs s) (k + 1)).map vS by
          rw [namesN, List.map_append, reachN_yes hkl hkL (by rw [← HOL.out])]
          simp only [List.map_cons, List.map_nil, vS_data])
        have LE := hid (show (namesN (reachN xs s) k).length + 1 = (namesN (reachN xs s) (k + 1)).length by rw [namesN, List.length_append, reachN_yes hkl hkL (by rw [← HOL.out])]; rfl)
        go_wp2_with (at_builtin; refine wpList_app2 (w0 := w1) rfl (.tmp 29) (.tmp 35) 24 rfl w1.heap.size 9 (.string ⟨#[]⟩) 1 16 Try.underlying24 infoStr rfl (by decide) _ _ _ rfl O5.out #[.string xs[k].fTo] 1 1 (by simp [Act.eval]) rfl (by simp [Value.oneCell']) (by omega) B5.out.size B5.out ?_; intro v1 w6 hown1 hbel1 hg1 hb1; have K1 := hid (two_kept S5.out HNE.out hg1 hb1); obtain ⟨g6, c6, rfl, hf6⟩ := own_form hown1 (by omega))
        go_roundw
        case rel => exact ⟨k + 1, g6, c6, by omega, by go_num, by rw [← LE.out], by rw [← HE.out, ← LE.out]; exact hown1, K1.out.1, by rw [← LE.out]; exact K1.out.2, hbel1⟩
        case measure => simp [intOf]; omega
    · have hk2 : k = xs.length := by omega
      subst hk2
      go_wp2_with (go_at_call 78; refine (sortedSet_ok g cc _ w1 _ HO.out HB.out (by omega)).mono ?_; rintro e w7 ⟨rfl, ho7, hb7⟩)
      go_ret2
      exact RetSC.own HF.out (own_mono ho7 B1.out.size) (B1.out.trans (hb7.mono B1.out.size))

set_option maxHeartbeats 1600000 in
set_option maxRecDepth 100000 in
theorem specReach_ok (A : Option Addr) (c : Nat) (xs : List DDeed) (s : ByteArray) (w : World) (hA : RowsAt w 4 A (xs.map DDeed.cells)) (hok : ∀ x ∈ xs, x.ok) (hn : xs.length ≤ 1048576) (hs : s.size ≤ maxLen) :
    Calls Try.prog 32 #[.slice A xs.length c, .string s] w (RetSC w (fReach xs s)) := by
  have HA := hid hA
  have HK := hid hok
  clear hA hok
  cases c1 : deedsB xs
  · have HF := hid (show fReach xs s = ([], 1) by unfold fReach; rw [if_pos (by rw [c1]; rfl)])
    go_enter Try.func32, Try.ntmps32
    go_wp2_with (go_at_call 74; refine (l19Ok_ok A c xs _ HA.out HK.out hn).mono ?_; rintro e w1 ⟨rfl, hb⟩; have B1 := hid hb; clear hb)
    go_ret2
    exact RetSC.nil HF.out B1.out
  cases c2 : nameB s
  · have HF := hid (show fReach xs s = ([], 1) by unfold fReach; rw [if_pos (by rw [c1, c2]; rfl)])
    go_enter Try.func32, Try.ntmps32
    go_wp2_with (first | (go_at_call 88; refine (l01Name_ok _ _ hs).mono ?_; rintro e w' ⟨rfl, rfl⟩) | (go_at_call 74; refine (l19Ok_ok A c xs _ HA.out HK.out hn).mono ?_; rintro e w1 ⟨rfl, hb⟩; have B1 := hid hb; clear hb))
    go_ret2
    exact RetSC.nil HF.out B1.out
  have HF := hid (show fReach xs s = (setOf (namesN (reachN xs s) xs.length), 0) by unfold fReach; rw [if_neg (by rw [c1, c2]; exact fun h => by cases h)])
  have HH := hid (deedsB_iff.1 c1)
  have h16 := HH.out.2
  have LK := hid (linksTo_len (xs := xs) (s := s) (Nat.le_refl _))
  go_enter Try.func32, Try.ntmps32
  go_wp2_with (first | (go_at_call 89; refine (l19Best_ok _ _ xs s _ (HA.out.below B1.out) HH.out.1 h16).mono ?_; rintro e w2 ⟨⟨A2, c2', v2, rfl, ho⟩, hb2⟩; have SO := hid ho; have B2 := hid (below_trans B1.out hb2); clear ho hb2) | (go_at_call 88; refine (l01Name_ok _ _ hs).mono ?_; rintro e w' ⟨rfl, rfl⟩) | (go_at_call 74; refine (l19Ok_ok A c xs _ HA.out HK.out hn).mono ?_; rintro e w1 ⟨rfl, hb⟩; have B1 := hid hb; clear hb))
  have SI := hid (show IntsAt w2 A2 ((linksTo xs s xs.length).map bestOf) from ints_own SO.out)
  go_loopw [8, 9] (fun v m wr => ∃ (k g cc : Nat), k ≤ xs.length ∧ m = .int .i64 k ∧ v = .slice (some ⟨g, 0, none⟩) (setOf (namesN (reachN xs s) k)).length cc ∧ wr.ownsRow w2.heap.size 9 1 (.slice (some ⟨g, 0, none⟩) (setOf (namesN (reachN xs s) k)).length cc) (setOf (namesN (reachN xs s) k)).length ((setOf (namesN (reachN xs s) k)).map vS) ∧ Below w2.heap.size w2 wr) (fun _ m _ => xs.length - (intOf m).toNat)
  case atStart => exact ⟨0, _, _, Nat.zero_le _, rfl, rfl, World.ownsRow_lit _ _ 0 (Nat.le_refl _) (by unfold maxLen; omega) rfl, below_alloc _ _⟩
  case round =>
    obtain ⟨k, g, cc, hk, rfl, rfl, hown, hbel⟩ := hrel
    have HO := hid hown
    have HB := hid hbel
    have hnl : (namesN (reachN xs s) k).length ≤ 1 * k := namesN_len (reachN_len xs s) k
    have hsl := setOf_len (namesN (reachN xs s) k)
    clear hown hbel
    by_cases hkl : k < xs.length
    · have hkL : k < (linksTo xs s xs.length).length := by rw [LK.out]; exact hkl
      have hkM : k < ((linksTo xs s xs.length).map bestOf).length := by rw [List.length_map]; exact hkL
      obtain ⟨⟨oh, od, obf⟩, hol⟩ : ∃ ol, ol = (linksTo xs s xs.length)[k] := ⟨_, rfl⟩
      obtain ⟨ib, io, rfl, ilt, ic⟩ := SI.out (by intro e; rw [e] at hkM; exact absurd hkM (by simp))
      have z1 : wr.cell? ⟨ib, io + k, none⟩ = some (.int .i64 (bestOf ⟨oh, od, obf⟩)) := (HB.out.cell (p := ⟨ib, io + k, none⟩) ilt).trans (ic k _ (by rw [List.getElem?_map, List.getElem?_eq_getElem hkL, ← hol]; rfl))
      obtain ⟨b, o, rfl, hlt, hc⟩ := ((HA.out.below B2.out).below HB.out) (by intro e; rw [List.map_eq_nil_iff] at e; rw [e] at hkl; exact absurd hkl (by simp))
      have t1 := hc k xs[k].cells (by rw [List.getElem?_map, List.getElem?_eq_getElem hkl]; rfl) 1 (.string xs[k].fTo) rfl
      have bd := links_bd (s := s) HH.out.1 (Nat.le_refl _) k hkL
      rw [← hol] at bd
      dsimp only at bd
      have q0 : (0 : Int) ≤ (k : Int) := by omega
      have q1 : (k : Int) < xs.length := by omega
      have HOL := hid hol
      clear hc ic hol hkM
      cases oh
      · have HE := hid (show setOf (namesN (reachN xs s) k) = setOf (namesN (reachN xs s) (k + 1)) by rw [namesN, reachN_no hkl hkL (by rw [← HOL.out]), List.append_nil])
        rw [show bestOf ⟨false, od, obf⟩ = -1 from rfl] at z1
        go_wp2_with fail
        go_roundw
        case rel => exact ⟨k + 1, g, cc, by omega, by go_num, by rw [← HE.out], by rw [← HE.out]; exact HO.out, HB.out⟩
        case measure => simp [intOf]; omega
      · have HE := hid (show putS (setOf (namesN (reachN xs s) k)) xs[k].fTo.data.toList = setOf (namesN (reachN xs s) (k + 1)) by rw [namesN, reachN_yes hkl hkL (by rw [← HOL.out]), setOf_snoc])
        rw [show bestOf ⟨true, od, obf⟩ = od from rfl] at z1
        have hod : (0 : Int) ≤ od := bd.1
        go_wp2_with (go_at_call 75; refine (l19Put_ok g cc (setOf (namesN (reachN xs s) k)) xs[k].fTo w2.heap.size _ HO.out (setOf_up (namesN (reachN xs s) k)) (by omega) HB.out.size).mono ?_; rintro e v1 ⟨⟨g1, c1, rfl, ho⟩, hb⟩; have O1 := hid ho; have B3 := hid (below_up HB.out HB.out.size hb); clear ho hb)
        go_roundw
        case rel => exact ⟨k + 1, g1, c1, by omega, by go_num, by rw [← HE.out], by rw [← HE.out]; exact O1.out, B3.out⟩
        case measure => simp [intOf]; omega
    · have hk2 : k = xs.length := by omega
      subst hk2
      go_wp2_with fail
      go_ret2
      exact RetSC.own HF.out (own_mono HO.out B2.out.size) (B2.out.trans (HB.out.mono B2.out.size))

end Go.Proofs.Ytfagfohcbdlaeaa
