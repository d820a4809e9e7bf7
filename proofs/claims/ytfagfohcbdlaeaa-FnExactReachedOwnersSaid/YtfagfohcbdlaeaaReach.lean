/- ReachedOwners and its reference: the best chains. -/
import Derived.Test.YtfagfohcbdlaeaaSorted
import Derived.Test.YtfagfohcbdlaeaaPut
import Derived.Test.YtfagfohcbdlaeaaNames
import Derived.Test.YtfagfohcbdlaeaaVDeed
import Derived.Test.YtfagfohcbdlaeaaRowOps
namespace Go.Proofs.Ytfagfohcbdlaeaa
open Go.RowKit
set_option linter.unusedVariables false

structure DLink where
  has : Bool
  doubt : Int
  before : Int
def DLink.cells (l : DLink) : List Value := [.bool l.has, .int .i64 l.doubt, .int .i64 l.before]
theorem cellsLink_len (xs : List DLink) : ∀ c ∈ xs.map DLink.cells, c.length = 3 := fun c hc => by
  obtain ⟨x, _, rfl⟩ := List.mem_map.1 hc
  rfl
theorem flatLink_length (xs : List DLink) : (xs.map DLink.cells).flatten.length = xs.length * 3 := by rw [flatten_length (cellsLink_len xs), List.length_map]
theorem infoLink : (Try.prog.info? 114).map (fun i => (i.zero, i.size, i.bytes)) = some (some (.agg #[.bool false, .int .i64 0, .int .i64 0]), 3, 24) := by kernel_rfl
/-- whether a deed before another one makes its chain better -/
def stepB (xs : List DDeed) (o l : DLink) (x : DDeed) (y : DDeed) : Bool := o.has && ((y.fTo.toList == x.fFrom.toList) && (!l.has || decide (o.doubt + x.fDoubt < l.doubt)))
/-- the best chain up to x, out of the first j -/
def linkI (xs : List DDeed) (out : List DLink) (s : ByteArray) (x : DDeed) : Nat → DLink
  | 0 => ⟨x.fFrom.toList == s.toList, x.fDoubt, -1⟩
  | j + 1 => match xs[j]?, out[j]? with
    | some y, some o => if stepB xs o (linkI xs out s x j) x y then ⟨true, o.doubt + x.fDoubt, (j : Int)⟩ else linkI xs out s x j
    | _, _ => linkI xs out s x j
theorem linkI_yes {xs : List DDeed} {out : List DLink} {s : ByteArray} {x : DDeed} {j : Nat} (h : j < xs.length) (h2 : j < out.length) (hb : stepB xs out[j] (linkI xs out s x j) x xs[j] = true) : linkI xs out s x (j + 1) = ⟨true, out[j].doubt + x.fDoubt, (j : Int)⟩ := by simp only [linkI, List.getElem?_eq_getElem h, List.getElem?_eq_getElem h2, hb]; rfl
theorem linkI_no {xs : List DDeed} {out : List DLink} {s : ByteArray} {x : DDeed} {j : Nat} (h : j < xs.length) (h2 : j < out.length) (hb : stepB xs out[j] (linkI xs out s x j) x xs[j] = false) : linkI xs out s x (j + 1) = linkI xs out s x j := by simp only [linkI, List.getElem?_eq_getElem h, List.getElem?_eq_getElem h2, hb]; rfl
def linksTo (xs : List DDeed) (s : ByteArray) : Nat → List DLink
  | 0 => []
  | k + 1 => linksTo xs s k ++ (match xs[k]? with | some x => [linkI xs (linksTo xs s k) s x k] | none => [])
theorem linksTo_succ {xs : List DDeed} {s : ByteArray} {k : Nat} (h : k < xs.length) : linksTo xs s (k + 1) = linksTo xs s k ++ [linkI xs (linksTo xs s k) s xs[k] k] := by simp only [linksTo, List.getElem?_eq_getElem h]
theorem linksTo_len {xs : List DDeed} {s : ByteArray} : ∀ {k : Nat}, k ≤ xs.length → (linksTo xs s k).length = k
  | 0, _ => rfl
  | k + 1, h => by rw [linksTo_succ (by omega), List.length_append, linksTo_len (by omega)]; rfl
def LBd (out : List DLink) : Prop := ∀ j (h : j < out.length), 0 ≤ out[j].doubt ∧ out[j].doubt ≤ 1000 * ((j : Int) + 1)
theorem deed_doubt {x : DDeed} (h : deedD x = true) : 0 ≤ x.fDoubt ∧ x.fDoubt ≤ 1000 := by
  simp only [deedD, deedB, Bool.and_eq_true] at h
  exact inB_iff.1 h.2.2.2.2
theorem linkI_bd {xs : List DDeed} {out : List DLink} {s : ByteArray} {x : DDeed} (hb : LBd out) (hx : 0 ≤ x.fDoubt ∧ x.fDoubt ≤ 1000) : ∀ {j : Nat}, j ≤ out.length → 0 ≤ (linkI xs out s x j).doubt ∧ (linkI xs out s x j).doubt ≤ 1000 * ((j : Int) + 1)
  | 0, _ => by simp only [linkI]; omega
  | j + 1, hj => by
    have ih := linkI_bd (xs := xs) (s := s) hb hx (j := j) (by omega)
    have ho := hb j (by omega)
    simp only [linkI]
    split
    · rename_i y o hy hoo
      rw [List.getElem?_eq_getElem (by omega)] at hoo
      injection hoo with hoo
      subst hoo
      split
      · show 0 ≤ out[j].doubt + x.fDoubt ∧ out[j].doubt + x.fDoubt ≤ _
        omega
      · omega
    · omega
theorem links_bd {xs : List DDeed} {s : ByteArray} (h : DeedsTo xs xs.length) : ∀ {k : Nat}, k ≤ xs.length → LBd (linksTo xs s k)
  | 0, _ => fun j hj => absurd hj (by simp [linksTo])
  | k + 1, hk => by
    have ih := links_bd (s := s) h (k := k) (by omega)
    intro j hj
    simp only [linksTo_succ (show k < xs.length by omega)] at hj ⊢
    have hl := linksTo_len (xs := xs) (s := s) (k := k) (by omega)
    rcases Nat.lt_or_ge j k with h3 | h3
    · rw [List.getElem_append_left (by omega)]
      exact ih j _
    · have hjk : j = k := by rw [List.length_append, hl] at hj; simp at hj; omega
      subst hjk
      rw [List.getElem_append_right (by omega)]
      simp only [hl, Nat.sub_self, List.getElem_cons_zero]
      exact linkI_bd ih (deed_doubt (h j (by omega) (by omega)).1) (by omega)
def reachN (xs : List DDeed) (s : ByteArray) (k : Nat) : List Str := match xs[k]?, (linksTo xs s xs.length)[k]? with | some x, some l => if l.has then [x.fTo.data.toList] else [] | _, _ => []
theorem reachN_yes {xs : List DDeed} {s : ByteArray} {k : Nat} (h : k < xs.length) (h2 : k < (linksTo xs s xs.length).length) (hb : (linksTo xs s xs.length)[k].has = true) : reachN xs s k = [xs[k].fTo.data.toList] := by simp only [reachN, List.getElem?_eq_getElem h, List.getElem?_eq_getElem h2, hb]; rfl
theorem reachN_no {xs : List DDeed} {s : ByteArray} {k : Nat} (h : k < xs.length) (h2 : k < (linksTo xs s xs.length).length) (hb : (linksTo xs s xs.length)[k].has = false) : reachN xs s k = [] := by simp only [reachN, List.getElem?_eq_getElem h, List.getElem?_eq_getElem h2, hb]; rfl
theorem reachN_len (xs : List DDeed) (s : ByteArray) (k : Nat) : (reachN xs s k).length ≤ 1 := by
  unfold reachN
  split
  · split <;> simp
  · simp
noncomputable def fReach (xs : List DDeed) (s : ByteArray) : List Str × Int := if (deedsB xs && nameB s) = false then ([], 1) else (setOf (namesN (reachN xs s) xs.length), 0)
theorem fReach_small (xs : List DDeed) (s : ByteArray) : (fReach xs s).1.length ≤ 64 := by
  unfold fReach
  split
  · simp
  · rename_i h1
    rw [Bool.not_eq_false, Bool.and_eq_true] at h1
    have h := deedsB_iff.1 h1.1
    have h2 := setOf_len (namesN (reachN xs s) xs.length)
    have h3 := namesN_len (reachN_len xs s) xs.length
    show (setOf (namesN (reachN xs s) xs.length)).length ≤ 64
    omega

set_option maxHeartbeats 3200000 in
set_option maxRecDepth 100000 in
theorem links_ok (A : Option Addr) (c : Nat) (xs : List DDeed) (s : ByteArray) (w : World) (hA : RowsAt w 4 A (xs.map DDeed.cells)) (hh : DeedsTo xs xs.length) (h16 : xs.length ≤ 16) :
    Calls Try.prog 91 #[.slice A xs.length c, .string s] w fun e w' => (∃ A' c', e = .returned (.slice A' xs.length c') ∧ w'.ownsRow w.heap.size 114 3 (.slice A' xs.length c') xs.length ((linksTo xs s xs.length).map DLink.cells).flatten) ∧ Below w.heap.size w w' := by
  have HA := hid hA
  have HH := hid hh
  clear hA hh
  go_enter Try.func91, Try.ntmps91
  go_wp2_with fail
  go_loopw [5, 14] (fun v m wr => ∃ (k : Nat) (Ac : Option Addr) (cc : Nat), k ≤ xs.length ∧ m = .int .i64 k ∧ v = .slice Ac k cc ∧ wr.ownsRow w.heap.size 114 3 (.slice Ac k cc) k ((linksTo xs s k).map DLink.cells).flatten ∧ Below w.heap.size w wr) (fun _ m _ => xs.length - (intOf m).toNat)
  case atStart => exact ⟨0, _, _, Nat.zero_le _, rfl, rfl, World.ownsRow_lit _ _ 0 (Nat.le_refl _) (by unfold maxLen; omega) rfl, below_alloc _ _⟩
  case round =>
    obtain ⟨k, Ac, cc, hk, rfl, rfl, hown, hbel⟩ := hrel
    have HO := hid hown
    have HB := hid hbel
    have LK := hid (linksTo_len (s := s) hk)
    clear hown hbel
    by_cases hkl : k < xs.length
    · rename World => wo
      have hne : xs.map DDeed.cells ≠ [] := by intro e; rw [List.map_eq_nil_iff] at e; rw [e] at hkl; exact absurd hkl (by simp)
      obtain ⟨b, o, rfl, hlt, hc⟩ := (HA.out.below HB.out) hne
      have HC := hid hc
      have hc0 : wo.cell? ⟨b, o + k * 4, none⟩ = some (.string xs[k].fFrom) := HC.out k _ (by rw [List.getElem?_map, List.getElem?_eq_getElem hkl]; rfl) 0 _ rfl
      have hc1 : wo.cell? ⟨b, o + k * 4 + 1, none⟩ = some (.string xs[k].fTo) := HC.out k _ (by rw [List.getElem?_map, List.getElem?_eq_getElem hkl]; rfl) 1 _ rfl
      have hc2 : wo.cell? ⟨b, o + k * 4 + 2, none⟩ = some (.int .i64 xs[k].fYear) := HC.out k _ (by rw [List.getElem?_map, List.getElem?_eq_getElem hkl]; rfl) 2 _ rfl
      have hc3 : wo.cell? ⟨b, o + k * 4 + 3, none⟩ = some (.int .i64 xs[k].fDoubt) := HC.out k _ (by rw [List.getElem?_map, List.getElem?_eq_getElem hkl]; rfl) 3 _ rfl
      have q0 : (0 : Int) ≤ (k : Int) := by omega
      have q1 : (k : Int) < xs.length := by omega
      clear hc hne
      have NX := hid (HasC.new wo [.string xs[k].fFrom, .string xs[k].fTo, .int .i64 xs[k].fYear, .int .i64 xs[k].fDoubt] 97)
      have x0 := NX.out.2 0 _ rfl
      have x3 := NX.out.2 3 _ rfl
      have OX := hid (HO.out.alloc (.cells #[.string xs[k].fFrom, .string xs[k].fTo, .int .i64 xs[k].fYear, .int .i64 xs[k].fDoubt] 97))
      have BX := hid (HB.out.alloc HB.out.size (.cells #[.string xs[k].fFrom, .string xs[k].fTo, .int .i64 xs[k].fYear, .int .i64 xs[k].fDoubt] 97))
      have AX := hid ((HA.out.below HB.out).below (below_alloc wo (.cells #[.string xs[k].fFrom, .string xs[k].fTo, .int .i64 xs[k].fYear, .int .i64 xs[k].fDoubt] 97)))
      have hdk := deed_doubt (HH.out k hkl hkl).1
      have BD := hid (links_bd (s := s) HH.out hk)
      obtain ⟨wa, hwa⟩ : ∃ wa, wa = wo.alloc (.cells #[.string xs[k].fFrom, .string xs[k].fTo, .int .i64 xs[k].fYear, .int .i64 xs[k].fDoubt] 97) := ⟨_, rfl⟩
      have hsz : wo.heap.size + 1 = wa.heap.size := by rw [hwa]; simp
      have HSZ := hid hsz
      have L0 := hid (show (wa.alloc (.cells #[.bool (xs[k].fFrom.toList == s.toList), .int .i64 xs[k].fDoubt, .int .i64 (-1)] 114)).ownsRow wa.heap.size 114 3 (.slice (some ⟨wa.heap.size, 0, none⟩) 1 1) 1 (linkI xs (linksTo xs s k) s xs[k] 0).cells from World.ownsRow_lit _ _ 1 (Nat.le_refl _) (by unfold maxLen; omega) rfl)
      rw [← hwa] at OX BX AX NX
      have HWA := hid hwa
      clear hsz hwa
      go_wp2_with fail
      rw [← HWA.out, HSZ.out]
      go_loopw [27] (fun m ws => ∃ q : Nat, q ≤ k ∧ m = .int .i64 q ∧ ws.ownsRow wa.heap.size 114 3 (.slice (some ⟨wa.heap.size, 0, none⟩) 1 1) 1 (linkI xs (linksTo xs s k) s xs[k] q).cells ∧ Below wa.heap.size wa ws) (fun m _ => k - (intOf m).toNat)
      case atStart => exact ⟨0, Nat.zero_le _, rfl, L0.out, below_alloc _ _⟩
      case round =>
        obtain ⟨q, hq, rfl, hown, hbel⟩ := hrel
        have LO := hid hown
        have HW := hid hbel
        clear hown hbel
        obtain ⟨⟨lh, ld, lbf⟩, hl⟩ : ∃ l, l = linkI xs (linksTo xs s k) s xs[k] q := ⟨_, rfl⟩
        have HLL := hid hl
        have LB := hid (linkI_bd (xs := xs) (s := s) (x := xs[k]) BD.out hdk (j := q) (by have := LK.out; omega))
        rw [← hl] at LO LB
        simp only [DLink.cells] at LO
        clear hl
        by_cases hql : q < k
        · have O2 := hid (own_below OX.out HW.out)
          obtain ⟨g, cap, hv, hgB, hgl, _⟩ := own_form O2.out (by omega)
          obtain ⟨rfl, rfl⟩ : Ac = some ⟨g, 0, none⟩ ∧ cc = cap := by injection hv with a1 a2 a3; exact ⟨a1, a3⟩
          have hqo : q < (linksTo xs s k).length := by have := LK.out; omega
          have hqx : q < xs.length := by omega
          obtain ⟨⟨oh, od, obf⟩, hol⟩ : ∃ ol, ol = (linksTo xs s k)[q] := ⟨_, rfl⟩
          have hq? : ((linksTo xs s k).map DLink.cells)[q]? = some (DLink.cells ⟨oh, od, obf⟩) := by rw [List.getElem?_map, List.getElem?_eq_getElem hqo, hol]; rfl
          have e0 : wr.cell? ⟨g, q * 3, none⟩ = some (.bool oh) := by rw [O2.out.cellAt (q * 3) (by omega)]; exact (flatten_at (j := 0) (cellsLink_len _) hq? (by omega)).trans rfl
          have e1 : wr.cell? ⟨g, q * 3 + 1, none⟩ = some (.int .i64 od) := by rw [O2.out.cellAt (q * 3 + 1) (by omega)]; exact (flatten_at (j := 1) (cellsLink_len _) hq? (by omega)).trans rfl
          have e2 : wr.cell? ⟨g, q * 3 + 2, none⟩ = some (.int .i64 obf) := by rw [O2.out.cellAt (q * 3 + 2) (by omega)]; exact (flatten_at (j := 2) (cellsLink_len _) hq? (by omega)).trans rfl
          have NB := hid (HasC.new wr [.bool oh, .int .i64 od, .int .i64 obf] 114)
          have n0 := NB.out.2 0 _ rfl
          have n1 := NB.out.2 1 _ rfl
          obtain ⟨b2, o2, hA2, hlt2, hc2⟩ := ((AX.out.below HW.out).below (below_alloc wr (.cells #[.bool oh, .int .i64 od, .int .i64 obf] 114))) (by intro e; rw [List.map_eq_nil_iff] at e; rw [e] at hqx; exact absurd hqx (by simp))
          injection hA2 with hA2
          injection hA2 with hA2 hoo
          subst hA2 hoo
          have t1 := hc2 q xs[q].cells (by rw [List.getElem?_map, List.getElem?_eq_getElem hqx]; rfl) 1 (.string xs[q].fTo) rfl
          have X2 := hid ((NX.out.below HW.out).below (below_alloc wr (.cells #[.bool oh, .int .i64 od, .int .i64 obf] 114)))
          have y0 := X2.out.2 0 _ rfl
          have y3 := X2.out.2 3 _ rfl
          have L2 := hid (LO.out.alloc (.cells #[.bool oh, .int .i64 od, .int .i64 obf] 114))
          have l0 := L2.out.cellAt 0 (by omega)
          have l1 := L2.out.cellAt 1 (by omega)
          have l2 := L2.out.cellAt 2 (by omega)
          have fr0 := L2.out.frozenAt 0
          have fr1 := L2.out.frozenAt 1
          have fr2 := L2.out.frozenAt 2
          simp only [List.getElem?_cons_zero, List.getElem?_cons_succ] at l0 l1 l2
          have B2 := hid (HW.out.alloc HW.out.size (.cells #[.bool oh, .int .i64 od, .int .i64 obf] 114))
          have p0 : (0 : Int) ≤ (q : Int) := by omega
          have p1 : (q : Int) < k := by omega
          have p2 : (q : Int) < xs.length := by omega
          have ob := BD.out q hqo
          rw [← hol] at ob
          have lb := LB.out
          dsimp only at ob lb
          have w1 : IntKind.i64.wrap (od + xs[k].fDoubt) = od + xs[k].fDoubt := IntWalk.i64_in _ (by omega)
          have HOL := hid hol
          have HST := hid (show stepB xs (linksTo xs s k)[q] (linkI xs (linksTo xs s k) s xs[k] q) xs[k] xs[q] = stepB xs ⟨oh, od, obf⟩ ⟨lh, ld, lbf⟩ xs[k] xs[q] by rw [← hol, ← HLL.out])
          clear hol hq? hv hc2
          cases oh
          · have HN := hid (show linkI xs (linksTo xs s k) s xs[k] (q + 1) = ⟨lh, ld, lbf⟩ by rw [linkI_no hqx hqo (by rw [HST.out, stepB]; rfl)]; exact HLL.out.symm)
            go_wp2_with fail
            go_quiet (fail)
            go_wp2_with fail
            go_roundw
            case rel => exact ⟨q + 1, by omega, by go_num, by rw [HN.out]; exact own_below L2.out (below_drewN _ _), below_drewN' B2.out _⟩
            case measure => simp [intOf]; omega
          · cases d2 : (xs[q].fTo.toList == xs[k].fFrom.toList)
            · have HN := hid (show linkI xs (linksTo xs s k) s xs[k] (q + 1) = ⟨lh, ld, lbf⟩ by rw [linkI_no hqx hqo (by rw [HST.out, stepB, d2]; rfl)]; exact HLL.out.symm)
              go_wp2_with fail
              go_quiet (fail)
              go_wp2_with fail
              go_roundw
              case rel => exact ⟨q + 1, by omega, by go_num, by rw [HN.out]; exact own_below L2.out (below_drewN _ _), below_drewN' B2.out _⟩
              case measure => simp [intOf]; omega
            · cases lh
              · have HN := hid (show linkI xs (linksTo xs s k) s xs[k] (q + 1) = ⟨true, od + xs[k].fDoubt, (q : Int)⟩ by rw [linkI_yes hqx hqo (by rw [HST.out, stepB, d2]; rfl), ← HOL.out])
                go_wp2_with fail
                go_quiet (fail)
                have LS := hid (show ∀ n, (((wr.alloc (.cells #[.bool true, .int .i64 od, .int .i64 obf] 114)).drewN n)).ownsRow wa.heap.size 114 3 (.slice (some ⟨wa.heap.size, 0, none⟩) 1 1) 1 [.bool false, .int .i64 ld, .int .i64 lbf] from fun n => own_below L2.out (below_drewN _ _))
                have BS := hid (show ∀ n, Below wa.heap.size wa ((wr.alloc (.cells #[.bool true, .int .i64 od, .int .i64 obf] 114)).drewN n) from fun n => below_drewN' B2.out n)
                go_wp2_with fail
                go_roundw
                case rel => exact ⟨q + 1, by omega, by go_num, by rw [HN.out]; exact own_setCells [.bool true, .int .i64 (od + xs[k].fDoubt), .int .i64 (q : Int)] (p := 0) (LS.out _), below_setCells (Nat.le_refl _) [.bool true, .int .i64 (od + xs[k].fDoubt), .int .i64 (q : Int)] (p := 0) (BS.out _)⟩
                case measure => simp [intOf]; omega
              · by_cases d4 : od + xs[k].fDoubt < ld
                · have HN := hid (show linkI xs (linksTo xs s k) s xs[k] (q + 1) = ⟨true, od + xs[k].fDoubt, (q : Int)⟩ by rw [linkI_yes hqx hqo (by rw [HST.out, stepB, d2, decide_eq_true d4]; rfl), ← HOL.out])
                  go_wp2_with fail
                  go_quiet (fail)
                  have LS := hid (show ∀ n, (((wr.alloc (.cells #[.bool true, .int .i64 od, .int .i64 obf] 114)).drewN n)).ownsRow wa.heap.size 114 3 (.slice (some ⟨wa.heap.size, 0, none⟩) 1 1) 1 [.bool true, .int .i64 ld, .int .i64 lbf] from fun n => own_below L2.out (below_drewN _ _))
                  have BS := hid (show ∀ n, Below wa.heap.size wa ((wr.alloc (.cells #[.bool true, .int .i64 od, .int .i64 obf] 114)).drewN n) from fun n => below_drewN' B2.out n)
                  go_wp2_with fail
                  go_roundw
                  case rel => exact ⟨q + 1, by omega, by go_num, by rw [HN.out]; exact own_setCells [.bool true, .int .i64 (od + xs[k].fDoubt), .int .i64 (q : Int)] (p := 0) (LS.out _), below_setCells (Nat.le_refl _) [.bool true, .int .i64 (od + xs[k].fDoubt), .int .i64 (q : Int)] (p := 0) (BS.out _)⟩
                  case measure => simp [intOf]; omega
                · have HN := hid (show linkI xs (linksTo xs s k) s xs[k] (q + 1) = ⟨true, ld, lbf⟩ by rw [linkI_no hqx hqo (by rw [HST.out, stepB, d2, decide_eq_false d4]; rfl)]; exact HLL.out.symm)
                  have d5 : decide (od + xs[k].fDoubt < ld) = false := decide_eq_false d4
                  go_wp2_with fail
                  go_quiet (fail)
                  go_wp2_with fail
                  go_roundw
                  case rel => exact ⟨q + 1, by omega, by go_num, by rw [HN.out]; exact own_below L2.out (below_drewN _ _), below_drewN' B2.out _⟩
                  case measure => simp [intOf]; omega
        · have hq2 : q = k := by omega
          subst hq2
          have O2 := hid (own_below OX.out HW.out)
          have B2 := hid (below_up BX.out BX.out.size HW.out)
          have l0 := LO.out.cellAt 0 (by omega)
          have l1 := LO.out.cellAt 1 (by omega)
          have l2 := LO.out.cellAt 2 (by omega)
          simp only [List.getElem?_cons_zero, List.getElem?_cons_succ] at l0 l1 l2
          have HE := hid (show ((linksTo xs s q).map DLink.cells).flatten ++ [.bool lh, .int .i64 ld, .int .i64 lbf] = ((linksTo xs s (q + 1)).map DLink.cells).flatten by
            rw [linksTo_succ hkl, List.map_append, List.flatten_append, ← HLL.out]
            rfl)
          go_wp2_with (at_builtin; refine wpList_app (w0 := w) rfl (.tmp 67) (.tmp 69) 111 rfl w.heap.size 114 (.agg #[.bool false, .int .i64 0, .int .i64 0]) 3 24 Try.underlying111 infoLink rfl (by decide) _ _ _ rfl O2.out #[.bool lh, .int .i64 ld, .int .i64 lbf] 1 1 rfl rfl (by simp [Value.oneCell']) (by omega) B2.out.size B2.out ?_; intro v1 w6 hown1 hbel1 hz1 _; obtain ⟨g6, c6, rfl, hf6⟩ := own_form hown1 (by omega))
          go_roundw
          case rel => exact ⟨q + 1, some ⟨g6, 0, none⟩, c6, by omega, by go_num, by first | rfl | go_num, by rw [← HE.out]; exact hown1, hbel1⟩
          case measure => simp [intOf]; omega
    · have hk2 : k = xs.length := by omega
      subst hk2
      go_wp2_with fail
      go_ret
      exact ⟨⟨Ac, cc, rfl, HO.out⟩, HB.out⟩

end Go.Proofs.Ytfagfohcbdlaeaa
