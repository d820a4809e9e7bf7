/- FnOutlines: outlines as the reference draws them. -/
import Derived.Test.YtdbjbkdcmhekfaaOutI
import Derived.Test.YtdbjbkdcmhekfaaR8
import Derived.Test.YtdbjbkdcmhekfaaApp3
import Derived.Test.YtdbjbkdcmhekfaaNestR
namespace Go.Proofs.Ytdbjbkdcmhekfaa
open Go.RowKit
set_option linter.unusedVariables false

theorem own_sideO {w w' : World} {B K g n c m a b : Nat} {T : TypeId} {l : List Value} (h : w.ownsRow B T K (.slice (some ⟨g, 0, none⟩) n c) m l) (hb : Chg a b w w') (hg : g < a ∨ b ≤ g) : w'.ownsRow B T K (.slice (some ⟨g, 0, none⟩) n c) m l := by
  have hlt := (h.lt g rfl).2
  refine ⟨h.1, ?_⟩
  rcases h.2 with ⟨h0, _⟩ | ⟨g', cap, cur, he, h1, h2, h3⟩
  · cases h0
  · injection he with e1 e2 e3
    injection e1 with e1
    injection e1 with e1
    subst e1
    exact .inr ⟨g, cap, cur, by rw [e2, e3], h1, by rw [hb.block g hlt hg]; exact h2, h3⟩
/-- an arc's center stored -/
theorem center_set {l : List DArc} {j : Nat} {x : DArc} {u v : Int} (hx : l[j]? = some x) : setSeg (arcV l) (j * 6) [.int .i64 u, .int .i64 v] = arcV (l.set j ⟨u, v, x.fx, x.fy, x.tx, x.ty⟩) := by
  have hj := (List.getElem?_eq_some_iff.1 hx).1
  have hk := cellsArc_len l
  have hci : (l.map DArc.cells)[j]? = some x.cells := by rw [List.getElem?_map, hx]; rfl
  have at' : ∀ i v, i < 6 → x.cells[i]? = some v → (arcV l)[j * 6 + i]? = some v := fun i v hi hv => (flatten_at hk hci hi).trans hv
  rw [setSeg_keep (at' 2 _ (by omega) rfl), setSeg_keep (at' 3 _ (by omega) rfl), setSeg_keep (at' 4 _ (by omega) rfl), setSeg_keep (at' 5 _ (by omega) rfl)]
  unfold arcV
  rw [setSeg_flatten hk (by simpa using hj) rfl, List.map_set]
  rfl
/-- a drawn outline -/
def PostO (w0 w : World) (e : Ending) (w' : World) : Prop := ∃ (xs : List DArc) (n g cc : Nat), xs.length = n ∧ e = .returned (.slice (some ⟨g, 0, none⟩) n cc) ∧ DrwO xs ∧ w'.ownsRow w.heap.size 88 6 (.slice (some ⟨g, 0, none⟩) n cc) n (arcV xs) ∧ Below w0.heap.size w0 w'

set_option maxHeartbeats 1600000 in
set_option maxRecDepth 100000 in
theorem l05Draw_ok (w0 : World) (b : Nat) (A : Option Addr) (c : Nat) (ns : List Int) (w : World) (hs : SrcB w0 b (.slice A ns.length c) 0 w) (hA : BytesAt w0 A ns) (hB : ByteIn ns) (hl : ns.length ≤ 1048576) :
    Calls Try.prog 116 #[.pointer (some ⟨b, 0, none⟩)] w (PostO w0 w) := by
  have HA := hid hA
  have HB := hid hB
  have S0 := hid hs
  have hbw := hs.lt
  have hlo := hs.lo
  clear hA hB hs
  go_enter Try.func116, Try.ntmps116
  go_wp2_with fail
  refine (pick_ok w0 b A c ns 0 300 _ S0.out HA.out HB.out hl (by omega) (by omega) (by omega)).mono ?_
  rintro e w1 ⟨k, rfl, ⟨k0, k1⟩, hs1, hc1⟩
  have S1 := hid hs1
  have z1 : w.heap.size ≤ w1.heap.size := hc1.size
  clear hs1 hc1
  go_wp2_with fail
  refine (pick_ok w0 b A c ns (0 + 2) 300 _ S1.out HA.out HB.out hl (by omega) (by omega) (by omega)).mono ?_
  rintro e w2 ⟨r2, rfl, ⟨r20, r21⟩, hs1, hc1⟩
  have S2 := hid hs1
  have z2 : w1.heap.size ≤ w2.heap.size := hc1.size
  clear hs1 hc1
  obtain ⟨m, rfl⟩ : ∃ m, r2 = m - 1 := ⟨r2 + 1, by omega⟩
  have vm : IntKind.i64.wrap (1 + (m - 1)) = m := (IntWalk.i64_in _ (by omega)).trans (by omega)
  have m0 : 1 ≤ m := by omega
  have m1 : m ≤ 300 := by omega
  clear r20 r21
  go_wp2_with fail
  refine (l05Oval_ok k m _ ⟨by omega, by omega⟩ ⟨by omega, by omega⟩).mono ?_
  rintro e w3 ⟨g, rfl, ho, hb⟩
  have S3 := hid (S2.out.next hb)
  have hg2 := (ho.lt g rfl).1
  have hgb : b + 1 ≤ g := by omega
  have O3 := hid (own_mono ho (show w.heap.size ≤ w2.heap.size by omega))
  have hg0 : w0.heap.size ≤ g := by omega
  clear ho hb hg2 vm
  go_wp2_with fail
  refine (pick_ok w0 b A c ns (0 + 2 + 2) 4 _ S3.out HA.out HB.out hl (by omega) (by omega) (by omega)).mono ?_
  rintro e w4 ⟨r, rfl, ⟨r0, r1⟩, hs1, hc1⟩
  have S4 := hid hs1
  have O4 := hid (own_sideO O3.out hc1 (.inr hgb))
  clear hs1 hc1
  rcases (show r = 0 ∨ r = 1 ∨ r = 2 ∨ r = 3 by omega) with rfl | rfl | rfl | rfl
  · clear r0 r1
    go_wp2_with fail
    refine (pick_ok w0 b A c ns (0 + 2 + 2 + 2) 4 _ S4.out HA.out HB.out hl (by omega) (by omega) (by omega)).mono ?_
    rintro e w5 ⟨r, rfl, ⟨r0, r1⟩, hs1, hc1⟩
    have S5 := hid hs1
    have O5 := hid (own_sideO O4.out hc1 (.inr hgb))
    clear hs1 hc1
    obtain ⟨j, rfl⟩ : ∃ j : Nat, r = (j : Int) := ⟨r.toNat, by omega⟩
    have hj4 : j < (ovalL k m).length := by show j < 4; omega
    obtain ⟨x, hx⟩ : ∃ x, (ovalL k m)[j]? = some x := ⟨_, List.getElem?_eq_getElem hj4⟩
    have HX := hid hx
    obtain ⟨-, -, g3, g4, g5, g6, g7, g8⟩ := oval_small ⟨by omega, by omega⟩ ⟨by omega, by omega⟩ x (List.mem_of_getElem? hx)
    have v1 : IntKind.i64.wrap (x.fx + x.tx) = x.fx + x.tx := IntWalk.i64_in _ (by omega)
    have v2 : IntKind.i64.wrap (x.fx + x.tx - x.cx) = x.fx + x.tx - x.cx := IntWalk.i64_in _ (by omega)
    have v3 : IntKind.i64.wrap (x.fy + x.ty) = x.fy + x.ty := IntWalk.i64_in _ (by omega)
    have v4 : IntKind.i64.wrap (x.fy + x.ty - x.cy) = x.fy + x.ty - x.cy := IntWalk.i64_in _ (by omega)
    clear g3 g4 g5 g6 g7 g8
    obtain ⟨ab, ao, hae, hAt⟩ := ArcAt.of_rows (arcV_rows O5.out rfl) hx
    injection hae with hae
    injection hae with ha1 ha2
    subst ha1 ha2
    rw [Nat.zero_add] at hAt
    obtain ⟨hl0, x0, x1, x2, x3, x4, x5⟩ := hAt
    have hne : ¬ g = w5.heap.size := by omega
    have f0 := O5.out.frozenAt (j * 6)
    have f1 := O5.out.frozenAt (j * 6 + 1)
    have q0 : (0 : Int) ≤ (j : Int) := by omega
    have q1 : (j : Int) < 4 := by omega
    clear hx
    go_upto_region 8 with fail
    go_wp2_with fail
    go_ret
    exact ⟨(ovalL k m).set j (flipC x), 4, g, 4, by rw [List.length_set]; rfl, rfl, drw_flip ⟨k0, by omega⟩ ⟨m0, m1⟩ HX.out, own_below (by have h := own_setCells [.int .i64 (x.fx + x.tx - x.cx), .int .i64 (x.fy + x.ty - x.cy)] (p := j * 6) O5.out; rw [center_set HX.out] at h; exact h) (below_alloc _ _), ((S5.out.below.setCell (p := ⟨g, j * 6, none⟩) hg0 _).setCell (p := ⟨g, j * 6 + 1, none⟩) hg0 _).alloc (by simp; have := S5.out.below.size; omega) _⟩
  · clear r0 r1
    obtain ⟨x, hx⟩ : ∃ x, (ovalL k m)[0]? = some x := ⟨_, rfl⟩
    have HX := hid hx
    have v1 : IntKind.i64.wrap (k + m) = k + m := IntWalk.i64_in _ (by omega)
    have v2 : IntKind.i64.wrap (5 * (k + m)) = 5 * (k + m) := IntWalk.i64_in _ (by omega)
    have v3 : IntKind.i64.wrap (4 * k) = 4 * k := IntWalk.i64_in _ (by omega)
    have v4 : IntKind.i64.wrap (5 * (k + m) - 4 * k) = 5 * (k + m) - 4 * k := IntWalk.i64_in _ (by omega)
    obtain ⟨ab, ao, hae, hAt⟩ := ArcAt.of_rows (arcV_rows O4.out rfl) hx
    injection hae with hae
    injection hae with ha1 ha2
    subst ha1 ha2
    rw [Nat.zero_mul, Nat.add_zero] at hAt
    obtain ⟨hl0, x0, x1, x2, x3, x4, x5⟩ := hAt
    clear hx
    go_upto_region 14 with fail
    obtain ⟨W, hW⟩ : ∃ W, W = (((w4.alloc (.cells #[.int .i64 x.cx, .int .i64 x.cy, .int .i64 x.fx, .int .i64 x.fy, .int .i64 x.tx, .int .i64 x.ty] 88)).alloc (.cells #[.int .i64 0, .int .i64 (5 * (k + m) - 4 * k)] 86)).alloc (.cells #[.int .i64 x.cx, .int .i64 x.cy, .int .i64 x.fx, .int .i64 x.fy, .int .i64 0, .int .i64 (5 * (k + m) - 4 * k)] 88)).alloc (.cells #[.int .i64 x.cx, .int .i64 x.cy, .int .i64 0, .int .i64 (5 * (k + m) - 4 * k), .int .i64 x.tx, .int .i64 x.ty] 88) := ⟨_, rfl⟩
    rw [← hW]
    have hz4 : (((w4.alloc (.cells #[.int .i64 x.cx, .int .i64 x.cy, .int .i64 x.fx, .int .i64 x.fy, .int .i64 x.tx, .int .i64 x.ty] 88)).alloc (.cells #[.int .i64 0, .int .i64 (5 * (k + m) - 4 * k)] 86)).alloc (.cells #[.int .i64 x.cx, .int .i64 x.cy, .int .i64 x.fx, .int .i64 x.fy, .int .i64 0, .int .i64 (5 * (k + m) - 4 * k)] 88)).heap.size = w4.heap.size + 2 + 1 := by simp
    have hz3 : ((w4.alloc (.cells #[.int .i64 x.cx, .int .i64 x.cy, .int .i64 x.fx, .int .i64 x.fy, .int .i64 x.tx, .int .i64 x.ty] 88)).alloc (.cells #[.int .i64 0, .int .i64 (5 * (k + m) - 4 * k)] 86)).heap.size = w4.heap.size + 2 := by simp
    have hbW : Below w4.heap.size w4 W := by rw [hW]; exact below_trans (below_trans (below_trans (below_alloc _ _) (below_alloc _ _)) (below_alloc _ _)) (below_alloc _ _)
    have OW := hid (own_below O4.out hbW)
    have BW := hid (S4.out.next hbW).below
    obtain ⟨fb, hfb⟩ : ∃ fb, fb = w4.heap.size + 2 := ⟨_, rfl⟩
    obtain ⟨sb, hsb⟩ : ∃ sb, sb = w4.heap.size + 2 + 1 := ⟨_, rfl⟩
    have H1 := hid (show HasC W fb [.int .i64 x.cx, .int .i64 x.cy, .int .i64 x.fx, .int .i64 x.fy, .int .i64 0, .int .i64 (5 * (k + m) - 4 * k)] by
      have h := (HasC.new ((w4.alloc (.cells #[.int .i64 x.cx, .int .i64 x.cy, .int .i64 x.fx, .int .i64 x.fy, .int .i64 x.tx, .int .i64 x.ty] 88)).alloc (.cells #[.int .i64 0, .int .i64 (5 * (k + m) - 4 * k)] 86)) [.int .i64 x.cx, .int .i64 x.cy, .int .i64 x.fx, .int .i64 x.fy, .int .i64 0, .int .i64 (5 * (k + m) - 4 * k)] 88).below (below_alloc _ (.cells #[.int .i64 x.cx, .int .i64 x.cy, .int .i64 0, .int .i64 (5 * (k + m) - 4 * k), .int .i64 x.tx, .int .i64 x.ty] 88))
      rw [hz3] at h
      rw [hW, hfb]
      exact h)
    have H2 := hid (show HasC W sb [.int .i64 x.cx, .int .i64 x.cy, .int .i64 0, .int .i64 (5 * (k + m) - 4 * k), .int .i64 x.tx, .int .i64 x.ty] by
      have h := HasC.new (((w4.alloc (.cells #[.int .i64 x.cx, .int .i64 x.cy, .int .i64 x.fx, .int .i64 x.fy, .int .i64 x.tx, .int .i64 x.ty] 88)).alloc (.cells #[.int .i64 0, .int .i64 (5 * (k + m) - 4 * k)] 86)).alloc (.cells #[.int .i64 x.cx, .int .i64 x.cy, .int .i64 x.fx, .int .i64 x.fy, .int .i64 0, .int .i64 (5 * (k + m) - 4 * k)] 88)) [.int .i64 x.cx, .int .i64 x.cy, .int .i64 0, .int .i64 (5 * (k + m) - 4 * k), .int .i64 x.tx, .int .i64 x.ty] 88
      rw [hz4] at h
      rw [hW, hsb]
      exact h)
    have HS : ∀ wb, Below W.heap.size W wb → ((fun w' => (True ∧ Below W.heap.size W w') ∧ w'.cell? ⟨fb, 0, none⟩ = some (.int .i64 x.cx) ∧ w'.cell? ⟨fb, 1, none⟩ = some (.int .i64 x.cy) ∧ w'.cell? ⟨fb, 2, none⟩ = some (.int .i64 x.fx) ∧ w'.cell? ⟨fb, 3, none⟩ = some (.int .i64 x.fy) ∧ w'.cell? ⟨fb, 4, none⟩ = some (.int .i64 0) ∧ w'.cell? ⟨fb, 5, none⟩ = some (.int .i64 (5 * (k + m) - 4 * k)) ∧ w'.cell? ⟨sb, 0, none⟩ = some (.int .i64 x.cx) ∧ w'.cell? ⟨sb, 1, none⟩ = some (.int .i64 x.cy) ∧ w'.cell? ⟨sb, 2, none⟩ = some (.int .i64 0) ∧ w'.cell? ⟨sb, 3, none⟩ = some (.int .i64 (5 * (k + m) - 4 * k)) ∧ w'.cell? ⟨sb, 4, none⟩ = some (.int .i64 x.tx) ∧ w'.cell? ⟨sb, 5, none⟩ = some (.int .i64 x.ty))) wb := fun wb hb => by
      have h1 := H1.out.below hb
      have h2 := H2.out.below hb
      exact ⟨⟨trivial, hb⟩, h1.2 0 _ rfl, h1.2 1 _ rfl, h1.2 2 _ rfl, h1.2 3 _ rfl, h1.2 4 _ rfl, h1.2 5 _ rfl, h2.2 0 _ rfl, h2.2 1 _ rfl, h2.2 2 _ rfl, h2.2 3 _ rfl, h2.2 4 _ rfl, h2.2 5 _ rfl⟩
    have NW := hid (show ∀ j u, ((arcV (ovalL k m)).drop 6)[j]? = some u → (W.drew.alloc (.cells #[.int .i64 x.cx, .int .i64 x.cy, .int .i64 x.fx, .int .i64 x.fy, .int .i64 0, .int .i64 (5 * (k + m) - 4 * k), .int .i64 x.cx, .int .i64 x.cy, .int .i64 0, .int .i64 (5 * (k + m) - 4 * k), .int .i64 x.tx, .int .i64 x.ty] 88)).cell? ((⟨g, 6, none⟩ : Addr).add j) = some u from src_news ((((arcV_rows ((own_below OW.out (below_alloc W (.cells #[.int .i64 x.cx, .int .i64 x.cy, .int .i64 x.fx, .int .i64 x.fy, .int .i64 0, .int .i64 (5 * (k + m) - 4 * k), .int .i64 x.cx, .int .i64 x.cy, .int .i64 0, .int .i64 (5 * (k + m) - 4 * k), .int .i64 x.tx, .int .i64 x.ty] 88)))) rfl).src (cellsArc_len _) (by decide)).drop 6)))
    have HWZ := hid (show w.heap.size ≤ W.heap.size by have := hbW.size; have := (O4.out.lt g rfl); have := S4.out.below.size; omega)
    rw [← hsb, ← hfb]
    clear hW hz4 hz3 hbW hfb hsb x0 x1 x2 x3 x4 x5 v1 v2 v3 v4 hl0
    refine wp_region_held_drew (S := (fun w' => (True ∧ Below W.heap.size W w') ∧ w'.cell? ⟨fb, 0, none⟩ = some (.int .i64 x.cx) ∧ w'.cell? ⟨fb, 1, none⟩ = some (.int .i64 x.cy) ∧ w'.cell? ⟨fb, 2, none⟩ = some (.int .i64 x.fx) ∧ w'.cell? ⟨fb, 3, none⟩ = some (.int .i64 x.fy) ∧ w'.cell? ⟨fb, 4, none⟩ = some (.int .i64 0) ∧ w'.cell? ⟨fb, 5, none⟩ = some (.int .i64 (5 * (k + m) - 4 * k)) ∧ w'.cell? ⟨sb, 0, none⟩ = some (.int .i64 x.cx) ∧ w'.cell? ⟨sb, 1, none⟩ = some (.int .i64 x.cy) ∧ w'.cell? ⟨sb, 2, none⟩ = some (.int .i64 0) ∧ w'.cell? ⟨sb, 3, none⟩ = some (.int .i64 (5 * (k + m) - 4 * k)) ∧ w'.cell? ⟨sb, 4, none⟩ = some (.int .i64 x.tx) ∧ w'.cell? ⟨sb, 5, none⟩ = some (.int .i64 x.ty))) (by kernel_rfl) (HS _ (Below.refl _ _).drew) (fun hHeld => ?_)
    refine wpAnyH_take (i := 0) (oi := ⟨some 83, _, _, _, _, _⟩) (v := ?_) rfl (by kernel_rfl) (by kernel_rfl) (by kernel_rfl) (fun _ _ _ h => h) (Or.inl ⟨by rfl, ?_⟩) (by assumption) ?_
    rotate_left
    · (intro w hSw; (try dsimp only at hSw); go_simp; try with_reducible rfl)
    try simp only [Act.put, List.setIfInBounds_toArray, List.set_cons_zero, List.set_cons_succ]
    refine wpAnyH_take (i := 1) (oi := ⟨some 84, _, _, _, _, _⟩) (v := ?_) rfl (by kernel_rfl) (by kernel_rfl) (by kernel_rfl) (fun _ _ _ h => h) (Or.inl ⟨by rfl, ?_⟩) (by assumption) ?_
    rotate_left
    · (intro w hSw; (try dsimp only at hSw); go_simp; try with_reducible rfl)
    try simp only [Act.put, List.setIfInBounds_toArray, List.set_cons_zero, List.set_cons_succ]
    refine wpAnyH_take (i := 3) (oi := ⟨some 86, _, _, _, _, _⟩) (v := ?_) rfl (by kernel_rfl) (by kernel_rfl) (by kernel_rfl) (fun _ _ _ h => h) (Or.inl ⟨by rfl, ?_⟩) (by assumption) ?_
    rotate_left
    · (intro w hSw; (try dsimp only at hSw); go_simp; try with_reducible rfl)
    try simp only [Act.put, List.setIfInBounds_toArray, List.set_cons_zero, List.set_cons_succ]
    refine wpAnyH_take (i := 4) (oi := ⟨some 87, _, _, _, _, _⟩) (v := ?_) rfl (by kernel_rfl) (by kernel_rfl) (by kernel_rfl) (fun _ _ _ h => h) (Or.inl ⟨by rfl, ?_⟩) (by assumption) ?_
    rotate_left
    · (intro w hSw; (try dsimp only at hSw); go_simp; try with_reducible rfl)
    try simp only [Act.put, List.setIfInBounds_toArray, List.set_cons_zero, List.set_cons_succ]
    refine wpAnyH_ready (rs := [2]) (by kernel_rfl) (by simp) ?_
    refine AllReadyH.cons (o := ⟨some 85, _, _, _, _, _⟩) rfl (fun K hK => ?_) AllReadyH.nil
    go_simp
    refine hK.out _ _ (HS _ (hHeld.1.2.alloc hHeld.1.2.size _)) (fun hHeld => ?_)
    clear hK K
    try simp only [Act.put, List.setIfInBounds_toArray, List.set_cons_zero, List.set_cons_succ]
    refine wpAnyH_ready (rs := [5]) (by kernel_rfl) (by simp) ?_
    refine AllReadyH.cons (o := ⟨some 88, _, _, _, _, _⟩) rfl (fun K hK => ?_) AllReadyH.nil
    refine step_app_some (w0 := W) rfl (.tmp 85) (.tmp 87) 73 rfl W.heap.size 88 (.agg #[.int .i64 0, .int .i64 0, .int .i64 0, .int .i64 0, .int .i64 0, .int .i64 0]) 6 48 Try.underlying73 infoArc rfl (by decide) W.heap.size 2 2 [.int .i64 x.cx, .int .i64 x.cy, .int .i64 x.fx, .int .i64 x.fy, .int .i64 0, .int .i64 (5 * (k + m) - 4 * k), .int .i64 x.cx, .int .i64 x.cy, .int .i64 0, .int .i64 (5 * (k + m) - 4 * k), .int .i64 x.tx, .int .i64 x.ty] (by first | rfl | simp [Act.eval]) (World.ownsRow_lit (base := W.heap.size) W.drew #[.int .i64 x.cx, .int .i64 x.cy, .int .i64 x.fx, .int .i64 x.fy, .int .i64 0, .int .i64 (5 * (k + m) - 4 * k), .int .i64 x.cx, .int .i64 x.cy, .int .i64 0, .int .i64 (5 * (k + m) - 4 * k), .int .i64 x.tx, .int .i64 x.ty] 2 (Nat.le_refl _) (by unfold maxLen; omega) rfl) ⟨g, 6, none⟩ 3 3 ((arcV (ovalL k m)).drop 6) (by first | rfl | simp [Act.eval]) rfl NW.out (by simp [arcV, ovalL, DArc.cells, Value.oneCell']) (by omega) (by simp) ((Below.refl _ _).drew.alloc (Nat.le_refl _) _) ?_
    intro g9 c9 w9 hown1 hgr1 _ hbel1
    refine hK.out _ _ (HS _ hbel1) (fun hHeld => ?_)
    clear hK K
    try simp only [Act.put, List.setIfInBounds_toArray, List.set_cons_zero, List.set_cons_succ]
    refine wpAnyH_take (i := 6) (oi := ⟨some 5, _, _, _, _, _⟩) (v := ?_) rfl (by kernel_rfl) (by kernel_rfl) (by kernel_rfl) (fun _ _ _ h => h) (Or.inl ⟨by rfl, ?_⟩) (by assumption) ?_
    rotate_left
    · (intro w hSw; (try dsimp only at hSw); go_simp; try with_reducible rfl)
    try simp only [Act.put, List.setIfInBounds_toArray, List.set_cons_zero, List.set_cons_succ]
    refine wpAnyH_done (by kernel_rfl) ?_ _
    clear hHeld
    have O9 := hid hown1
    have B9 := hid (below_up BW.out BW.out.size hbel1)
    clear hown1 hgr1 hbel1
    go_wp2_with fail
    go_ret
    refine ⟨cutL k m, 5, g9, c9, rfl, rfl, drw_cut ⟨k0, by omega⟩ ⟨m0, m1⟩, ?_, B9.out⟩
    have h := own_mono O9.out HWZ.out
    have hxx := HX.out
    have hx2 : x = ⟨0, -4 * k, 3 * k + 3 * m, 4 * m, -(3 * k + 3 * m), 4 * m⟩ := (Option.some.inj hxx).symm
    subst hx2
    exact h
  · clear r0 r1
    have v1 : IntKind.i64.wrap (5 * m) = 5 * m := IntWalk.i64_in _ (by omega)
    have v2 : IntKind.i64.wrap (-(5 * m)) = -(5 * m) := IntWalk.i64_in _ (by omega)
    go_wp2_with fail
    refine (l05Arc_ok 0 0 (5 * m) 0 (-(5 * m)) 0 _).mono ?_
    rintro e w5 ⟨rfl, hb⟩
    have S5 := hid (S4.out.next hb)
    have HZ5 := hid (show w.heap.size ≤ w5.heap.size by have h3 := hb.size; have h4 := (O4.out.lt g rfl); omega)
    clear hb
    go_wp2_with fail
    refine (l05Arc_ok 0 0 (-(5 * m)) 0 (5 * m) 0 _).mono ?_
    rintro e w6 ⟨rfl, hb⟩
    have S6 := hid (S5.out.next hb)
    have hz : w.heap.size ≤ w6.heap.size := by have h3 := hb.size; have h4 := HZ5.out; omega
    clear hb
    go_wp2_with fail
    go_ret
    exact ⟨halfL (5 * m), 2, _, 2, rfl, rfl, drw_half ⟨by omega, by omega⟩, own_mono (World.ownsRow_lit (base := w6.heap.size) w6 _ 2 (Nat.le_refl _) (by unfold maxLen; omega) rfl) hz, S6.out.below.alloc S6.out.below.size _⟩
  · clear r0 r1
    go_wp2_with fail
    go_ret
    exact ⟨ovalL k m, 4, g, 4, rfl, rfl, drw_oval ⟨k0, by omega⟩ ⟨m0, m1⟩, O4.out, S4.out.below⟩

set_option maxHeartbeats 1600000 in
set_option maxRecDepth 100000 in
theorem r8Outline_ok (A : Option Addr) (c : Nat) (ns : List Int) (w : World) (hA : BytesAt w A ns) (hB : ByteIn ns) (hl : ns.length ≤ 1048576) :
    Calls Try.prog 47 #[.slice A ns.length c] w (PostO w w) := by
  have HA := hid hA
  have HB := hid hB
  clear hA hB
  go_enter Try.func47, Try.ntmps47
  go_wp2_with fail
  refine (from_ok A c ns w).mono ?_
  rintro e w1 ⟨b, rfl, hb, hs1⟩
  have S1 := hid hs1
  have hw1 := hs1.below.size
  clear hs1 hb
  go_wp2_with fail
  refine (l05Draw_ok w b A c ns w1 S1.out HA.out HB.out hl).mono ?_
  rintro e w2 ⟨xs, n, g, cc, hn, rfl, hd, ho, hb⟩
  have D := hid hd
  have N := hid hn
  have O := hid (own_mono ho hw1)
  have B := hid hb
  clear hd ho hb hn
  go_wp2_with fail
  go_ret
  exact ⟨xs, n, g, cc, N.out, rfl, D.out, O.out, B.out⟩

end Go.Proofs.Ytdbjbkdcmhekfaa
