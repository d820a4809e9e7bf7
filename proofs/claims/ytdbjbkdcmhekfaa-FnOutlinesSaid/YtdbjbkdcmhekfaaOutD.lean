/- FnOutlines: joints, radii, areas, rows of numbers. -/
import Derived.Test.YtdbjbkdcmhekfaaOutC
namespace Go.Proofs.Ytdbjbkdcmhekfaa
open Go.RowKit
set_option linter.unusedVariables false

set_option maxHeartbeats 1600000 in
set_option maxRecDepth 100000 in
theorem r8Has_ok (A : Option Addr) (c : Nat) (ns : List Int) (p : Int) (w : World) (hA : IntsAt w A ns) (hn : ns.length ≤ 1048576) :
    ∀ n, n = ns.length → ∀ r, ns.contains p = r → Calls Try.prog 60 #[.slice A n c, .int .i64 p] w fun e w' => e = .returned (.bool r) ∧ w = w' := by
  rintro _ rfl r hr
  have HR := hid hr
  clear hr
  have HA := hid hA
  clear hA
  go_enter Try.func60, Try.ntmps60
  go_wp2_with fail
  go_loop [5] (fun i => ∃ k : Nat, k ≤ ns.length ∧ i = .int .i64 k ∧ ∀ j (h : j < ns.length), j < k → ns[j] ≠ p) (fun i => ns.length - (intOf i).toNat)
  case atStart => exact ⟨0, Nat.zero_le _, rfl, fun _ _ h => absurd h (by omega)⟩
  case round =>
    obtain ⟨k, hk, rfl, hall⟩ := hrel
    have HL := hid hall
    clear hall
    by_cases hkl : k < ns.length
    · obtain ⟨b, o, rfl, hlt, hc⟩ := HA.out (by intro e; rw [e] at hkl; exact absurd hkl (by simp))
      have hcell : w.cell? ⟨b, o + k, none⟩ = some (.int .i64 ns[k]) := hc k _ (List.getElem?_eq_getElem hkl)
      have q0 : (0 : Int) ≤ (k : Int) := by omega
      have q1 : (k : Int) < ns.length := by omega
      clear hc
      by_cases hp : ns[k] = p
      · have e0 : (ns[k] == p) = true := by rw [beq_iff_eq]; exact hp
        have HP := hid (show ns.contains p = true by rw [List.contains_iff_mem, ← hp]; exact List.getElem_mem hkl)
        clear hp
        go_wp2_with fail
        go_ret
        exact ⟨ret_bool (by rw [← HR.out, HP.out]), rfl⟩
      · have e0 : (ns[k] == p) = false := by rw [beq_eq_false_iff_ne]; exact hp
        have HS := hid (show ∀ j (h : j < ns.length), j < k + 1 → ns[j] ≠ p from fun j h hj => by
          rcases Nat.lt_or_ge j k with h3 | h3
          · exact HL.out j h h3
          · have e : j = k := by omega
            subst e; exact hp)
        clear hp
        go_wp2_with fail
        go_round
        case rel => exact ⟨k + 1, by omega, by go_num, HS.out⟩
        case measure => simp [intOf]; omega
    · have HP := hid (show ns.contains p = false by
        rw [Bool.eq_false_iff]
        intro h
        rw [List.contains_iff_mem] at h
        obtain ⟨j, hj, he⟩ := List.mem_iff_getElem.1 h
        exact HL.out j hj (by omega) he)
      go_wp2_with fail
      go_ret
      exact ⟨ret_bool (by rw [← HR.out, HP.out]), rfl⟩


set_option maxHeartbeats 1600000 in
set_option maxRecDepth 100000 in
theorem r8Same_ok (A B : Option Addr) (c d : Nat) (ns : List Int) (w : World) (hA : IntsAt w A ns) (hB : IntsAt w B ns) (hn : ns.length ≤ 1048576) :
    Calls Try.prog 64 #[.slice A ns.length c, .slice B ns.length d] w fun e w' => e = .returned (.bool true) ∧ Below w.heap.size w w' := by
  have HA := hid hA
  have HB := hid hB
  clear hA hB
  have d0 : (((ns.length : Nat) : Int) == ((ns.length : Nat) : Int)) = true := beq_self_eq_true _
  go_enter Try.func64, Try.ntmps64
  go_wp2_with fail
  go_loopw [5] (fun i wr => ∃ k : Nat, k ≤ ns.length ∧ i = .int .i64 (k : Int) ∧ Below w.heap.size w wr) (fun i _ => ns.length - (intOf i).toNat)
  case atStart => exact ⟨0, Nat.zero_le _, rfl, Below.refl _ _⟩
  case round =>
    obtain ⟨k, hk, rfl, hbel⟩ := hrel
    have HW := hid hbel
    clear hbel
    by_cases hkl : k < ns.length
    · obtain ⟨b, o, rfl, hlt, hc⟩ := HA.out (by intro e; rw [e] at hkl; exact absurd hkl (by simp))
      obtain ⟨b2, o2, rfl, hlt2, hc2⟩ := HB.out (by intro e; rw [e] at hkl; exact absurd hkl (by simp))
      have x0 : wr.cell? ⟨b, o + k, none⟩ = some (.int .i64 ns[k]) := (HW.out.cell (p := ⟨b, o + k, none⟩) hlt).trans <| hc k _ (List.getElem?_eq_getElem hkl)
      have x1 : wr.cell? ⟨b2, o2 + k, none⟩ = some (.int .i64 ns[k]) := (HW.out.cell (p := ⟨b2, o2 + k, none⟩) hlt2).trans <| hc2 k _ (List.getElem?_eq_getElem hkl)
      have q0 : (0 : Int) ≤ (k : Int) := by omega
      have q1 : (k : Int) < ns.length := by omega
      clear hc hc2
      go_wp2_with fail
      go_quiet (fail)
      go_wp2_with fail
      go_roundw
      case rel => exact ⟨k + 1, by omega, by go_num, below_drewN' HW.out _⟩
      case measure => simp [intOf]; omega
    · have q1 : ¬ (k : Int) < ns.length := by omega
      go_wp2_with fail
      go_ret
      exact ⟨rfl, HW.out⟩

set_option maxHeartbeats 1600000 in
set_option maxRecDepth 100000 in
theorem radius_ok (x : DArc) (w : World) (hx : ArcOk x) :
    Calls Try.prog 58 #[.agg #[.int .i64 x.cx, .int .i64 x.cy, .int .i64 x.fx, .int .i64 x.fy, .int .i64 x.tx, .int .i64 x.ty]] w fun e w' => e = .returned (.tuple #[.int .i64 (sqI x.cx x.cy x.fx x.fy), .int .i64 0]) ∧ Below w.heap.size w w' := by
  have HX := hid hx
  have HP := hid (ArcAt.new w x 88)
  clear hx
  go_enter Try.func58, Try.ntmps58
  go_wp2_with fail
  refine (ValidArc_ok x _ HX.out).mono ?_
  rintro e w1 ⟨rfl, hb1⟩
  have HB1 := hid (below_trans (below_alloc w (.cells #[.int .i64 x.cx, .int .i64 x.cy, .int .i64 x.fx, .int .i64 x.fy, .int .i64 x.tx, .int .i64 x.ty] 88)) hb1)
  obtain ⟨hl, x0, x1, x2, x3, x4, x5⟩ := HP.out.below hb1
  clear hb1
  go_wp2_with fail
  refine (squared_ok x.cx x.cy x.fx x.fy _ HX.out.bd.cx HX.out.bd.cy HX.out.bd.fx HX.out.bd.fy).mono ?_
  rintro e w2 ⟨rfl, hb2⟩
  go_wp2_with fail
  go_ret2
  exact ⟨rfl, below_trans HB1.out hb2⟩

set_option maxHeartbeats 1600000 in
set_option maxRecDepth 100000 in
theorem radiusS_ok (x : DArc) (w : World) (hx : ArcOk x) :
    Calls Try.prog 59 #[.agg #[.int .i64 x.cx, .int .i64 x.cy, .int .i64 x.fx, .int .i64 x.fy, .int .i64 x.tx, .int .i64 x.ty]] w fun e w' => e = .returned (.tuple #[.int .i64 (sqI x.cx x.cy x.fx x.fy), .int .i64 0]) ∧ Below w.heap.size w w' := by
  have HX := hid hx
  have HP := hid (ArcAt.new w x 88)
  clear hx
  go_enter Try.func59, Try.ntmps59
  go_wp2_with fail
  refine (l05One_ok w.heap.size 0 x _ HP.out HX.out).mono ?_
  rintro e w1 ⟨rfl, hb1⟩
  have HB1 := hid (below_trans (below_alloc w (.cells #[.int .i64 x.cx, .int .i64 x.cy, .int .i64 x.fx, .int .i64 x.fy, .int .i64 x.tx, .int .i64 x.ty] 88)) hb1)
  obtain ⟨hl, x0, x1, x2, x3, x4, x5⟩ := HP.out.below hb1
  clear hb1
  go_wp2_with fail
  refine (l05Square_ok x.cx x.cy x.fx x.fy _ HX.out.bd.cx HX.out.bd.cy HX.out.bd.fx HX.out.bd.fy).mono ?_
  rintro e w2 ⟨rfl, hb2⟩
  go_wp2_with fail
  go_ret2
  exact ⟨rfl, below_trans HB1.out hb2⟩

set_option maxHeartbeats 1600000 in
set_option maxRecDepth 100000 in
theorem joint_ok (x y : DArc) (w : World) (hx : ArcOk x) (hy : ArcOk y) (h1 : y.fx = x.tx) (h2 : y.fy = x.ty) :
    Calls Try.prog 57 #[.agg #[.int .i64 x.cx, .int .i64 x.cy, .int .i64 x.fx, .int .i64 x.fy, .int .i64 x.tx, .int .i64 x.ty], .agg #[.int .i64 y.cx, .int .i64 y.cy, .int .i64 y.fx, .int .i64 y.fy, .int .i64 y.tx, .int .i64 y.ty]] w fun e w' => e = .returned (.bool (smB x y)) ∧ Below w.heap.size w w' := by
  have HX := hid hx
  have HY := hid hy
  have HP := hid ((ArcAt.new w x 88).below (below_alloc (w.alloc (.cells #[.int .i64 x.cx, .int .i64 x.cy, .int .i64 x.fx, .int .i64 x.fy, .int .i64 x.tx, .int .i64 x.ty] 88)) (.cells #[.int .i64 y.cx, .int .i64 y.cy, .int .i64 y.fx, .int .i64 y.fy, .int .i64 y.tx, .int .i64 y.ty] 88)))
  have HQ := hid (show ArcAt ((w.alloc (.cells #[.int .i64 x.cx, .int .i64 x.cy, .int .i64 x.fx, .int .i64 x.fy, .int .i64 x.tx, .int .i64 x.ty] 88)).alloc (.cells #[.int .i64 y.cx, .int .i64 y.cy, .int .i64 y.fx, .int .i64 y.fy, .int .i64 y.tx, .int .i64 y.ty] 88)) (w.heap.size + 1) 0 y by
    have h := ArcAt.new (w.alloc (.cells #[.int .i64 x.cx, .int .i64 x.cy, .int .i64 x.fx, .int .i64 x.fy, .int .i64 x.tx, .int .i64 x.ty] 88)) y 88
    rw [show (w.alloc (.cells #[.int .i64 x.cx, .int .i64 x.cy, .int .i64 x.fx, .int .i64 x.fy, .int .i64 x.tx, .int .i64 x.ty] 88)).heap.size = w.heap.size + 1 by simp] at h
    exact h)
  have HB0 := hid (below_trans (below_alloc w (.cells #[.int .i64 x.cx, .int .i64 x.cy, .int .i64 x.fx, .int .i64 x.fy, .int .i64 x.tx, .int .i64 x.ty] 88)) (below_alloc (w.alloc (.cells #[.int .i64 x.cx, .int .i64 x.cy, .int .i64 x.fx, .int .i64 x.fy, .int .i64 x.tx, .int .i64 x.ty] 88)) (.cells #[.int .i64 y.cx, .int .i64 y.cy, .int .i64 y.fx, .int .i64 y.fy, .int .i64 y.tx, .int .i64 y.ty] 88)))
  have e1 : (y.fx = x.tx) = True := eq_true h1
  have e2 : (y.fy = x.ty) = True := eq_true h2
  clear hx hy h1 h2
  go_enter Try.func57, Try.ntmps57
  go_wp2_with fail
  refine (ValidArc_ok x _ HX.out).mono ?_
  rintro e w1 ⟨rfl, hb1⟩
  have HB1 := hid (below_trans HB0.out hb1)
  have HQ1 := hid (HQ.out.below hb1)
  have HP1 := hid (HP.out.below hb1)
  obtain ⟨hl2, y0, y1, y2, y3, y4, y5⟩ := HQ1.out
  clear hb1
  go_wp2_with fail
  refine (ValidArc_ok y _ HY.out).mono ?_
  rintro e w2 ⟨rfl, hb2⟩
  have HB2 := hid (below_trans HB1.out hb2)
  clear y0 y1 y2 y3 y4 y5 hl2
  obtain ⟨hl2, y0, y1, y2, y3, y4, y5⟩ := HQ1.out.below hb2
  obtain ⟨hl, x0, x1, x2, x3, x4, x5⟩ := HP1.out.below hb2
  clear hb2
  go_wp2_with fail
  refine (smooth_ok x y _ HX.out.bd HY.out.bd).mono ?_
  rintro e w3 ⟨rfl, hb3⟩
  go_wp2_with fail
  go_ret
  exact ⟨rfl, below_trans HB2.out hb3⟩

set_option maxHeartbeats 1600000 in
set_option maxRecDepth 100000 in
theorem specCorners_ok (A : Option Addr) (c : Nat) (xs : List DArc) (w : World) (hA : RowsAt w 6 A (xs.map DArc.cells)) (hX : OutOk xs) :
    Calls Try.prog 62 #[.slice A xs.length c] w fun e w' => ∃ A' c', e = .returned (.tuple #[.slice A' (corners xs).length c', .int .i64 0]) ∧ w'.ownsRow w.heap.size 2 1 (.slice A' (corners xs).length c') (corners xs).length (iVO (corners xs)) ∧ Below w.heap.size w w' := by
  have HA := hid hA
  have HX := hid hX
  clear hA hX
  go_enter Try.func62, Try.ntmps62
  go_wp2_with fail
  refine (l05Ok_ok A c xs _ HA.out HX.out).mono ?_
  rintro e w1 ⟨rfl, hb1⟩
  have HB1 := hid hb1
  have HA1 := hid (HA.out.below hb1)
  clear hb1
  go_wp2_with fail
  refine (l05Corners_ok A c xs _ HA1.out HX.out).mono ?_
  rintro e w2 ⟨A2, c2, rfl, ho, hb2⟩
  have HO := hid (own_mono ho HB1.out.size)
  have HB2 := hid (below_trans HB1.out hb2)
  clear ho hb2
  go_wp2_with fail
  go_ret2
  exact ⟨A2, c2, rfl, HO.out, HB2.out⟩

set_option maxHeartbeats 1600000 in
set_option maxRecDepth 100000 in
theorem specSmooth_ok (A : Option Addr) (c : Nat) (xs : List DArc) (w : World) (hA : RowsAt w 6 A (xs.map DArc.cells)) (hX : OutOk xs) (s : Bool) (hs : (corners xs).isEmpty = s) :
    Calls Try.prog 54 #[.slice A xs.length c] w fun e w' => e = .returned (.bool s) ∧ Below w.heap.size w w' := by
  have HA := hid hA
  have HX := hid hX
  have HE : ((((corners xs).length : Nat) : Int) == 0) = s := by
    rw [← hs]
    cases h : corners xs with
    | nil => rfl
    | cons a l => rw [List.length_cons]; simp only [List.isEmpty_cons, beq_eq_false_iff_ne]; omega
  clear hA hX hs
  go_enter Try.func54, Try.ntmps54
  go_wp2_with fail
  refine (l05Ok_ok A c xs _ HA.out HX.out).mono ?_
  rintro e w1 ⟨rfl, hb1⟩
  have HB1 := hid hb1
  have HA1 := hid (HA.out.below hb1)
  clear hb1
  go_wp2_with fail
  refine (l05Corners_ok A c xs _ HA1.out HX.out).mono ?_
  rintro e w2 ⟨A2, c2, rfl, ho, hb2⟩
  have HB2 := hid (below_trans HB1.out hb2)
  clear ho hb2
  cases s
  · have HL : ¬ (corners xs).length = 0 := by have := HE; simp only [beq_eq_false_iff_ne] at this; omega
    go_wp2_with fail
    go_ret
    exact ⟨rfl, HB2.out⟩
  · have HL : (corners xs).length = 0 := by have := HE; simp only [beq_iff_eq] at this; omega
    go_wp2_with fail
    go_ret
    exact ⟨rfl, HB2.out⟩

set_option maxHeartbeats 1600000 in
set_option maxRecDepth 100000 in
theorem implSmooth_ok (A : Option Addr) (c : Nat) (xs : List DArc) (w : World) (hA : RowsAt w 6 A (xs.map DArc.cells)) (hX : OutOk xs) (s : Bool) (hs : (corners xs).isEmpty = s) :
    Calls Try.prog 55 #[.slice A xs.length c] w fun e w' => e = .returned (.bool s) ∧ Below w.heap.size w w' := by
  have HA := hid hA
  have HX := hid hX
  have HE : ((((corners xs).length : Nat) : Int) == 0) = s := by
    rw [← hs]
    cases h : corners xs with
    | nil => rfl
    | cons a l => rw [List.length_cons]; simp only [List.isEmpty_cons, beq_eq_false_iff_ne]; omega
  clear hA hX hs
  go_enter Try.func55, Try.ntmps55
  go_wp2_with fail
  refine (CornersOf_ok A c xs _ HA.out HX.out).mono ?_
  rintro e w2 ⟨A2, c2, rfl, ho, hb2⟩
  have HB2 := hid hb2
  clear ho hb2
  cases s
  · have HL : ¬ (corners xs).length = 0 := by have := HE; simp only [beq_eq_false_iff_ne] at this; omega
    go_wp2_with fail
    go_ret
    exact ⟨rfl, HB2.out⟩
  · have HL : (corners xs).length = 0 := by have := HE; simp only [beq_iff_eq] at this; omega
    go_wp2_with fail
    go_ret
    exact ⟨rfl, HB2.out⟩

end Go.Proofs.Ytdbjbkdcmhekfaa
