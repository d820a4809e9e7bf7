/- New copies of versions: copyHistory and its reference. -/
import Derived.Test.YtmfadjdpbobfhaaDoorNestS
import Derived.Test.YtmfadjdpbobfhaaDoorNVersion
import Derived.Test.YtmfadjdpbobfhaaDoorISetting
import Derived.Test.YtmfadjdpbobfhaaDoorApp3
import Derived.Test.YtmfadjdpbobfhaaDoorHist
import Derived.Test.YtmfadjdpbobfhaaDoorPut
namespace Go.Proofs.YtmfadjdpbobfhaaDoor
open Go.RowKit
set_option linter.unusedVariables false

theorem own_cell_other {w : World} {B : Nat} {e : TypeId} {size g n c m : Nat} {xs : List Value} (p : w.ownsRow B e size (.slice (some ⟨g, 0, none⟩) n c) m xs) {a : Addr} (u : Value) (hne : a.block ≠ g) : (w.setCell a u).ownsRow B e size (.slice (some ⟨g, 0, none⟩) n c) m xs :=
  own_other p (l := a.block) (h := a.block + 1) ((Chg.refl _ _ w).setCell (p := a) u (Nat.le_refl _) (Nat.lt_succ_self _)) fun g' hg' => by
    have e : g = g' := by simpa [Value.ownBlock] using hg'
    omega

set_option maxHeartbeats 3200000 in
set_option maxRecDepth 100000 in
theorem copyHistory_ok (g0 : Nat) (xs : List DVersion) (w : World) (hA : NestB 2 hdVersion inVersion w g0 xs) (hn : xs.length ≤ 32) (hi : ∀ x ∈ xs, x.fIn.length ≤ 1048576) :
    Calls Tryd.prog 104 #[.slice (some ⟨g0, 0, none⟩) xs.length xs.length] w fun e w' => (∃ (g c : Nat) (ps : List (Nat × Nat)), e = .returned (.slice (some ⟨g, 0, none⟩) xs.length c) ∧ NestR w' w.heap.size w'.heap.size 89 135 2 hdVersion inVersion g c ps xs) ∧ Below w.heap.size w w' := by
  obtain ⟨i0, hi0, hz0, hz1, hz2⟩ := info_parts infoVersion
  have HA := hid hA
  have HI := hid hi
  clear hA hi
  go_enter Tryd.func104, Tryd.ntmps104
  go_wp2_with (at_make; refine wpList_make_own _ rfl _ _ _ rfl w.heap.size 89 i0 (.agg #[.int .i64 0, .int .i64 0, .string ⟨#[]⟩, .slice none 0 0]) 4 Tryd.underlying24 hi0 hz0 hz1 .i64 .i64 _ (xs.length + 1) rfl rfl rfl (by rw [hz2]; omega) (by unfold maxLen; omega) (Nat.le_refl _) ?_; intro w1 hown1 hg1; have HB1 := hid ((Below.refl w.heap.size w).grown hg1 (Nat.le_refl _) (fun k hk => by cases hk)); have HO1 := hid hown1; clear hg1 hown1)
  go_loopw [3, 12] (fun v m wr => ∃ (k g cc : Nat) (ps : List (Nat × Nat)), k ≤ xs.length ∧ m = .int .i64 k ∧ v = .slice (some ⟨g, 0, none⟩) k cc ∧ NestR wr w.heap.size wr.heap.size 89 135 2 hdVersion inVersion g cc ps (xs.take k) ∧ Below w.heap.size w wr) (fun _ m _ => xs.length - (intOf m).toNat)
  case atStart => exact ⟨0, w.heap.size, xs.length + 1, [], Nat.zero_le _, rfl, rfl, NestR.nil HO1.out (HO1.out.lt _ rfl).2, HB1.out⟩
  case round =>
    obtain ⟨k, g, cc, ps, hk, rfl, rfl, hnest, hbel⟩ := hrel
    have N0 := hid hnest
    have HB := hid hbel
    have hkl2 : (xs.take k).length = k := by rw [List.length_take]; omega
    have NO := hid (show wr.ownsRow w.heap.size 89 4 (.slice (some ⟨g, 0, none⟩) k cc) k (rowsR hdVersion inVersion (xs.take k) ps).flatten by have h := hnest.outer; rw [hkl2] at h; exact h)
    have HKL := hid hkl2
    clear hnest hbel hkl2
    by_cases hkl : k < xs.length
    · skip
      obtain ⟨hlt, hc⟩ := (HA.out.below HB.out) (by intro e; rw [e] at hkl; exact absurd hkl (by simp))
      obtain ⟨h1, gi, h2, h3⟩ := hc k xs[k] (List.getElem?_eq_getElem hkl)
      rw [inVersion_length] at h2
      have hc0 : wr.cell? ⟨g0, k * 4, none⟩ = some (.int .i64 xs[k].fNumber) := h1 0 _ rfl
      have hc1 : wr.cell? ⟨g0, k * 4 + 1, none⟩ = some (.int .i64 xs[k].fParent) := h1 1 _ rfl
      have hc2 : wr.cell? ⟨g0, k * 4 + 2, none⟩ = some (.string xs[k].fMemo) := h1 2 _ rfl
      have hc3 : wr.cell? ⟨g0, k * 4 + 3, none⟩ = some (.slice (some ⟨gi, 0, none⟩) xs[k].fIn.length xs[k].fIn.length) := h2
      have HRI := hid h3
      have q0 : (0 : Int) ≤ (k : Int) := by omega
      have q1 : (k : Int) < xs.length := by omega
      have HXI := HI.out xs[k] (List.getElem_mem hkl)
      clear hc h1 h2 h3
      have OV := hid (World.ownsRow_lit (e := 89) (size := 4) wr #[.int .i64 xs[k].fNumber, .int .i64 xs[k].fParent, .string xs[k].fMemo, .slice (some ⟨gi, 0, none⟩) xs[k].fIn.length xs[k].fIn.length] 1 (Nat.le_refl _) (by unfold maxLen; omega) rfl)
      have n3 := OV.out.cellAt 3 (by omega)
      simp only [List.getElem?_cons_zero, List.getElem?_cons_succ] at n3
      have HRI2 := hid (HRI.out.below (below_alloc wr (.cells #[.int .i64 xs[k].fNumber, .int .i64 xs[k].fParent, .string xs[k].fMemo, .slice (some ⟨gi, 0, none⟩) xs[k].fIn.length xs[k].fIn.length] 89)))
      go_wp2_with (first
        | (at_builtin; refine wpList_app_some (w0 := w) rfl (.tmp 20) (.tmp 22) 24 rfl w.heap.size 89 (.agg #[.int .i64 0, .int .i64 0, .string ⟨#[]⟩, .slice none 0 0]) 4 56 Tryd.underlying24 infoVersion rfl (by decide) g _ cc _ rfl ((own_below NO.out B6.out).alloc _) ⟨(w5.setCell ⟨wr.heap.size, 3, none⟩ (.slice (some ⟨g5, 0, none⟩) xs[k].fIn.length xs[k].fIn.length)).heap.size, 0, none⟩ 1 1 [.int .i64 xs[k].fNumber, .int .i64 xs[k].fParent, .string xs[k].fMemo, .slice (some ⟨g5, 0, none⟩) xs[k].fIn.length xs[k].fIn.length] (by simp [Act.eval]) rfl (news_new _ #[.int .i64 xs[k].fNumber, .int .i64 xs[k].fParent, .string xs[k].fMemo, .slice (some ⟨g5, 0, none⟩) xs[k].fIn.length xs[k].fIn.length] 89) (by simp [Value.oneCell']) (by omega) (by have h1 := B6.out.size; have h2 := HB.out.size; simp at h1 ⊢; omega) (((HB.out.trans (B6.out.mono HB.out.size)).alloc (by have h1 := B6.out.size; have h2 := HB.out.size; simp at h1 ⊢; omega) _)) ?_; intro g9 c9 w9 ho9 hg9 he9 hb9)
        | (go_at_call 105; refine (cloneSetting_ok (some ⟨gi, 0, none⟩) xs[k].fIn.length xs[k].fIn _ HRI2.out HXI (fun h => by cases h)).mono ?_; rintro e w5 ⟨g5, rfl, ho5, hb5⟩; have OV5 := hid (own_below OV.out hb5); have B5 := hid (below_trans (below_alloc wr (.cells #[.int .i64 xs[k].fNumber, .int .i64 xs[k].fParent, .string xs[k].fMemo, .slice (some ⟨gi, 0, none⟩) xs[k].fIn.length xs[k].fIn.length] 89)) hb5); have hgb5 := hid (show wr.heap.size + 1 ≤ g5 by have := (ho5.lt _ rfl).1; simpa using this); have I5 := hid (own_base ho5); clear ho5 hb5 n3; have OV6 := hid (own_setCells [.slice (some ⟨g5, 0, none⟩) xs[k].fIn.length xs[k].fIn.length] (p := 3) OV5.out); have z0 := OV6.out.cellAt 0 (by omega); have z1 := OV6.out.cellAt 1 (by omega); have z2 := OV6.out.cellAt 2 (by omega); have z3 := OV6.out.cellAt 3 (by omega); simp only [setSeg, setCells, List.set_cons_zero, List.set_cons_succ, List.getElem?_cons_zero, List.getElem?_cons_succ] at z0 z1 z2 z3; have old3 := OV5.out.cellAt 3 (by omega); have fr3 := OV5.out.frozenAt 3; simp only [List.getElem?_cons_zero, List.getElem?_cons_succ] at old3; have B6 := hid (show Below wr.heap.size wr (w5.setCell ⟨wr.heap.size, 3, none⟩ (.slice (some ⟨g5, 0, none⟩) xs[k].fIn.length xs[k].fIn.length)) from B5.out.setCell (p := ⟨wr.heap.size, 3, none⟩) (Nat.le_refl _) _); have I6 := hid (show ((w5.setCell ⟨wr.heap.size, 3, none⟩ (.slice (some ⟨g5, 0, none⟩) xs[k].fIn.length xs[k].fIn.length))).ownsRow g5 135 2 (.slice (some ⟨g5, 0, none⟩) xs[k].fIn.length xs[k].fIn.length) xs[k].fIn.length (xs[k].fIn.map DSetting.cells).flatten from own_cell_other I5.out _ (by have := hgb5.out; show wr.heap.size ≠ g5; omega))))
      have N9 := hid (NestR.snoc (w7 := (w5.setCell ⟨wr.heap.size, 3, none⟩ (.slice (some ⟨g5, 0, none⟩) xs[k].fIn.length xs[k].fIn.length)).alloc (.cells #[.int .i64 xs[k].fNumber, .int .i64 xs[k].fParent, .string xs[k].fMemo, .slice (some ⟨g5, 0, none⟩) xs[k].fIn.length xs[k].fIn.length] 89)) (p := (g5, xs[k].fIn.length)) (v := xs[k]) N0.out (B6.out.alloc B6.out.size _) hg9 (by have := HKL.out; omega) ho9 (by rw [rowR, inVersion_length]; rfl) he9 (by rw [inVersion_length]; exact I6.out.alloc _) (by have := hgb5.out; omega))
      have HT := hid (show xs.take (k + 1) = xs.take k ++ [xs[k]] from List.take_succ_eq_append_getElem hkl)
      have hl9 := N0.out.len
      go_roundw
      case rel => exact ⟨k + 1, g9, c9, ps ++ [(g5, xs[k].fIn.length)], by omega, by go_num, rfl, by rw [HT.out]; exact N9.out, hb9⟩
      case measure => simp [intOf]; omega
    · have hk2 : k = xs.length := by omega
      subst hk2
      rw [List.take_length] at N0
      go_wp2_with fail
      go_ret
      exact ⟨⟨g, cc, ps, rfl, N0.out⟩, HB.out⟩

set_option maxHeartbeats 3200000 in
set_option maxRecDepth 100000 in
theorem l27Own_ok (g0 : Nat) (xs : List DVersion) (w : World) (hA : NestB 2 hdVersion inVersion w g0 xs) (hn : xs.length ≤ 32) (hi : ∀ x ∈ xs, x.fIn.length ≤ 1048576) :
    Calls Tryd.prog 98 #[.slice (some ⟨g0, 0, none⟩) xs.length xs.length] w fun e w' => (∃ (g c : Nat) (ps : List (Nat × Nat)), e = .returned (.slice (some ⟨g, 0, none⟩) xs.length c) ∧ NestR w' w.heap.size w'.heap.size 89 135 2 hdVersion inVersion g c ps xs) ∧ Below w.heap.size w w' := by
  have HA := hid hA
  have HI := hid hi
  clear hA hi
  have HO1 := hid (World.ownsRow_lit (e := 89) (size := 4) w #[] 0 (Nat.le_refl _) (by unfold maxLen; omega) rfl)
  go_enter Tryd.func98, Tryd.ntmps98
  go_wp2_with fail
  go_loopw [3, 4] (fun v m wr => ∃ (k g cc : Nat) (ps : List (Nat × Nat)), k ≤ xs.length ∧ m = .int .i64 k ∧ v = .slice (some ⟨g, 0, none⟩) k cc ∧ NestR wr w.heap.size wr.heap.size 89 135 2 hdVersion inVersion g cc ps (xs.take k) ∧ Below w.heap.size w wr) (fun _ m _ => xs.length - (intOf m).toNat)
  case atStart => exact ⟨0, w.heap.size, 0, [], Nat.zero_le _, rfl, rfl, NestR.nil HO1.out (by simp), below_alloc _ _⟩
  case round =>
    obtain ⟨k, g, cc, ps, hk, rfl, rfl, hnest, hbel⟩ := hrel
    have N0 := hid hnest
    have HB := hid hbel
    have hkl2 : (xs.take k).length = k := by rw [List.length_take]; omega
    have NO := hid (show wr.ownsRow w.heap.size 89 4 (.slice (some ⟨g, 0, none⟩) k cc) k (rowsR hdVersion inVersion (xs.take k) ps).flatten by have h := hnest.outer; rw [hkl2] at h; exact h)
    have HKL := hid hkl2
    clear hnest hbel hkl2
    by_cases hkl : k < xs.length
    · skip
      obtain ⟨hlt, hc⟩ := (HA.out.below HB.out) (by intro e; rw [e] at hkl; exact absurd hkl (by simp))
      obtain ⟨h1, gi, h2, h3⟩ := hc k xs[k] (List.getElem?_eq_getElem hkl)
      rw [inVersion_length] at h2
      have hc0 : wr.cell? ⟨g0, k * 4, none⟩ = some (.int .i64 xs[k].fNumber) := h1 0 _ rfl
      have hc1 : wr.cell? ⟨g0, k * 4 + 1, none⟩ = some (.int .i64 xs[k].fParent) := h1 1 _ rfl
      have hc2 : wr.cell? ⟨g0, k * 4 + 2, none⟩ = some (.string xs[k].fMemo) := h1 2 _ rfl
      have hc3 : wr.cell? ⟨g0, k * 4 + 3, none⟩ = some (.slice (some ⟨gi, 0, none⟩) xs[k].fIn.length xs[k].fIn.length) := h2
      have HRI := hid h3
      have q0 : (0 : Int) ≤ (k : Int) := by omega
      have q1 : (k : Int) < xs.length := by omega
      have HXI := HI.out xs[k] (List.getElem_mem hkl)
      clear hc h1 h2 h3
      have OV := hid ((World.ownsRow_lit (e := 89) (size := 4) wr #[.int .i64 xs[k].fNumber, .int .i64 xs[k].fParent, .string xs[k].fMemo, .slice (some ⟨gi, 0, none⟩) xs[k].fIn.length xs[k].fIn.length] 1 (Nat.le_refl _) (by unfold maxLen; omega) rfl).alloc (.cells #[] 135))
      have n3 := OV.out.cellAt 3 (by omega)
      simp only [List.getElem?_cons_zero, List.getElem?_cons_succ] at n3
      have HB2 := hid (show Below wr.heap.size wr ((wr.alloc (.cells #[.int .i64 xs[k].fNumber, .int .i64 xs[k].fParent, .string xs[k].fMemo, .slice (some ⟨gi, 0, none⟩) xs[k].fIn.length xs[k].fIn.length] 89)).alloc (.cells #[] 135)) from (below_alloc wr _).alloc (by simp) _)
      have OE := hid (show ((wr.alloc (.cells #[.int .i64 xs[k].fNumber, .int .i64 xs[k].fParent, .string xs[k].fMemo, .slice (some ⟨gi, 0, none⟩) xs[k].fIn.length xs[k].fIn.length] 89)).alloc (.cells #[] 135)).ownsRow wr.heap.size 135 2 (.slice (some ⟨wr.heap.size + 1, 0, none⟩) 0 0) 0 [] from by
        have h := own_mono (World.ownsRow_lit (e := 135) (size := 2) (wr.alloc (.cells #[.int .i64 xs[k].fNumber, .int .i64 xs[k].fParent, .string xs[k].fMemo, .slice (some ⟨gi, 0, none⟩) xs[k].fIn.length xs[k].fIn.length] 89)) #[] 0 (Nat.le_refl _) (by unfold maxLen; omega) rfl) (show wr.heap.size ≤ (wr.alloc (.cells #[.int .i64 xs[k].fNumber, .int .i64 xs[k].fParent, .string xs[k].fMemo, .slice (some ⟨gi, 0, none⟩) xs[k].fIn.length xs[k].fIn.length] 89)).heap.size by simp)
        rw [show (wr.alloc (.cells #[.int .i64 xs[k].fNumber, .int .i64 xs[k].fParent, .string xs[k].fMemo, .slice (some ⟨gi, 0, none⟩) xs[k].fIn.length xs[k].fIn.length] 89)).heap.size = wr.heap.size + 1 by simp] at h
        exact h)
      have HS := hid (src_news ((HRI.out.below HB2.out).src (inVersion_len xs[k]) (by omega)))
      have HFL := hid (show (inVersion xs[k]).flatten.length = xs[k].fIn.length * 2 from flatSetting_length xs[k].fIn)
      have hz2 : ((wr.alloc (.cells #[.int .i64 xs[k].fNumber, .int .i64 xs[k].fParent, .string xs[k].fMemo, .slice (some ⟨gi, 0, none⟩) xs[k].fIn.length xs[k].fIn.length] 89)).alloc (.cells #[] 135)).heap.size = wr.heap.size + 2 := by simp
      have HZ2 := hid hz2
      clear hz2
      go_wp2_with (first
        | (at_builtin; refine wpList_app_some (w0 := w) rfl (.tmp 22) (.tmp 24) 24 rfl w.heap.size 89 (.agg #[.int .i64 0, .int .i64 0, .string ⟨#[]⟩, .slice none 0 0]) 4 56 Tryd.underlying24 infoVersion rfl (by decide) g _ cc _ rfl ((own_below NO.out B6.out).alloc _) ⟨(w5.setCell ⟨wr.heap.size, 3, none⟩ (.slice (some ⟨g5, 0, none⟩) xs[k].fIn.length c5)).heap.size, 0, none⟩ 1 1 [.int .i64 xs[k].fNumber, .int .i64 xs[k].fParent, .string xs[k].fMemo, .slice (some ⟨g5, 0, none⟩) xs[k].fIn.length c5] (by simp [Act.eval]) rfl (news_new _ #[.int .i64 xs[k].fNumber, .int .i64 xs[k].fParent, .string xs[k].fMemo, .slice (some ⟨g5, 0, none⟩) xs[k].fIn.length c5] 89) (by simp [Value.oneCell']) (by omega) (by have h1 := B6.out.size; have h2 := HB.out.size; simp at h1 ⊢; omega) (((HB.out.trans (B6.out.mono HB.out.size)).alloc (by have h1 := B6.out.size; have h2 := HB.out.size; simp at h1 ⊢; omega) _)) ?_; intro g9 c9 w9 ho9 hg9 he9 hb9)
        | (at_builtin; refine wpList_app_some (w0 := wr) rfl (.tmp 17) (.tmp 19) 86 rfl wr.heap.size 135 (.agg #[.string ⟨#[]⟩, .int .i64 0]) 2 24 Tryd.underlying86 infoSetting rfl (by decide) (wr.heap.size + 1) 0 0 [] rfl OE.out ⟨gi, 0, none⟩ xs[k].fIn.length xs[k].fIn.length (inVersion xs[k]).flatten rfl HFL.out HS.out (oneSetting xs[k].fIn) (by omega) HB2.out.size HB2.out ?_; intro g5 c5 w5 ho5 hg5 he5 hb5; simp only [Nat.zero_add, List.nil_append] at ho5; have OV5 := hid (OV.out.kept hg5 (.inr (by intro e; simp [Value.ownBlock] at e))); have B5 := hid hb5; have hgb5 := hid (show wr.heap.size + 1 ≤ g5 by have := HZ2.out; rcases he5 with e | e <;> omega); have I5 := hid (show w5.ownsRow g5 135 2 (.slice (some ⟨g5, 0, none⟩) xs[k].fIn.length c5) xs[k].fIn.length (xs[k].fIn.map DSetting.cells).flatten from own_base ho5); clear ho5 hb5 hg5 n3; have OV6 := hid (own_setCells [.slice (some ⟨g5, 0, none⟩) xs[k].fIn.length c5] (p := 3) OV5.out); have z0 := OV6.out.cellAt 0 (by omega); have z1 := OV6.out.cellAt 1 (by omega); have z2 := OV6.out.cellAt 2 (by omega); have z3 := OV6.out.cellAt 3 (by omega); simp only [setSeg, setCells, List.set_cons_zero, List.set_cons_succ, List.getElem?_cons_zero, List.getElem?_cons_succ] at z0 z1 z2 z3; have old3 := OV5.out.cellAt 3 (by omega); have fr3 := OV5.out.frozenAt 3; simp only [List.getElem?_cons_zero, List.getElem?_cons_succ] at old3; have B6 := hid (show Below wr.heap.size wr (w5.setCell ⟨wr.heap.size, 3, none⟩ (.slice (some ⟨g5, 0, none⟩) xs[k].fIn.length c5)) from B5.out.setCell (p := ⟨wr.heap.size, 3, none⟩) (Nat.le_refl _) _); have I6 := hid (show ((w5.setCell ⟨wr.heap.size, 3, none⟩ (.slice (some ⟨g5, 0, none⟩) xs[k].fIn.length c5))).ownsRow g5 135 2 (.slice (some ⟨g5, 0, none⟩) xs[k].fIn.length c5) xs[k].fIn.length (xs[k].fIn.map DSetting.cells).flatten from own_cell_other I5.out _ (by have := hgb5.out; show wr.heap.size ≠ g5; omega))))
      have N9 := hid (NestR.snoc (w7 := (w5.setCell ⟨wr.heap.size, 3, none⟩ (.slice (some ⟨g5, 0, none⟩) xs[k].fIn.length c5)).alloc (.cells #[.int .i64 xs[k].fNumber, .int .i64 xs[k].fParent, .string xs[k].fMemo, .slice (some ⟨g5, 0, none⟩) xs[k].fIn.length c5] 89)) (p := (g5, c5)) (v := xs[k]) N0.out (B6.out.alloc B6.out.size _) hg9 (by have := HKL.out; omega) ho9 (by rw [rowR, inVersion_length]; rfl) he9 (by rw [inVersion_length]; exact I6.out.alloc _) (by have := hgb5.out; omega))
      have HT := hid (show xs.take (k + 1) = xs.take k ++ [xs[k]] from List.take_succ_eq_append_getElem hkl)
      have hl9 := N0.out.len
      go_roundw
      case rel => exact ⟨k + 1, g9, c9, ps ++ [(g5, c5)], by omega, by go_num, rfl, by rw [HT.out]; exact N9.out, hb9⟩
      case measure => simp [intOf]; omega
    · have hk2 : k = xs.length := by omega
      subst hk2
      rw [List.take_length] at N0
      go_wp2_with fail
      go_ret
      exact ⟨⟨g, cc, ps, rfl, N0.out⟩, HB.out⟩

end Go.Proofs.YtmfadjdpbobfhaaDoor
