/- The words of a text: the program. -/
import Derived.Test.YtmfadjdpbobfhaaDoorWordsM
import Derived.Test.YtmfadjdpbobfhaaDoorApp2
import Derived.Test.YtmfadjdpbobfhaaDoorShelf
namespace Go.Proofs.YtmfadjdpbobfhaaDoor
open Go.RowKit
set_option linter.unusedVariables false

theorem split_vals (s : ByteArray) : (Lib.splitB ⟨#[32]⟩ 0 (Lib.countB s ⟨#[32]⟩) s).map Value.string = (splitC 32 s.data.toList).map vS := by
  rw [← splitB_eq, List.map_map]
  refine List.map_congr_left fun b _ => ?_
  exact (vS_data b).symm
theorem split_many (s : ByteArray) : Lib.countB s ⟨#[32]⟩ + 1 = (splitC 32 s.data.toList).length := by
  rw [← splitB_eq, List.length_map]
  exact (Lib.splitB_all _ (by decide) _ _ _ rfl).symm
theorem SplitR_ok (s : ByteArray) (w : World) (hs : s.size < 4294967281) (hR : RdW w) :
    Calls Tryd.prog 126 #[.string s, .string ⟨#[32]⟩] w fun e w' => e = .returned (.slice (some ⟨w.heap.size, 0, none⟩) (splitC 32 s.data.toList).length (splitC 32 s.data.toList).length) ∧ w' = w.alloc (.cells ((splitC 32 s.data.toList).map vS).toArray 9) := by
  obtain ⟨⟨m, hm⟩, _⟩ := hR
  refine (Tryd.strings_Split s ⟨#[32]⟩ m w hs hm (by decide)).mono ?_
  rintro e w' ⟨rfl, rfl⟩
  rw [split_vals, split_many]
  exact ⟨rfl, rfl⟩
theorem words_succ {ps : List Str} {k : Nat} (h : k < ps.length) (hne : ps[k].isEmpty = false) : (ps.take (k + 1)).filter (fun p => !p.isEmpty) = (ps.take k).filter (fun p => !p.isEmpty) ++ [ps[k]] := by
  rw [List.take_succ_eq_append_getElem h, List.filter_append]
  simp [hne]
theorem words_same {ps : List Str} {k : Nat} (h : k < ps.length) (he : ps[k].isEmpty = true) : (ps.take (k + 1)).filter (fun p => !p.isEmpty) = (ps.take k).filter (fun p => !p.isEmpty) := by
  rw [List.take_succ_eq_append_getElem h, List.filter_append]
  simp [he]
theorem emp_is {p : Str} (h : p.isEmpty = true) : (tB p).toList.isEmpty = true := by
  rw [toList_tB]; exact h
theorem emp_not {p : Str} (h : p.isEmpty = false) : (tB p).toList.isEmpty = false := by
  rw [toList_tB]; exact h

set_option maxHeartbeats 1600000 in
set_option maxRecDepth 100000 in
theorem SplitWords_ok (s : ByteArray) (w : World) (hs : s.size ≤ 1048576) (hR : RdW w) :
    Calls Tryd.prog 76 #[.string s] w fun e w' => PiecesAt w' e (wordsOf s.data.toList) ∧ Below w.heap.size w w' := by
  obtain ⟨ps, hps⟩ : ∃ ps, ps = splitC 32 s.data.toList := ⟨_, rfl⟩
  have hlen : ps.length ≤ 1048577 := by
    rw [hps, splitC_len]
    have := List.count_le_length (a := (32 : UInt8)) (l := s.data.toList)
    have h2 := lenL s
    omega
  have HPS := hid hps
  have O0 := hid (World.ownsRow_lit (e := 9) (size := 1) w #[] 0 (Nat.le_refl _) (by unfold maxLen; omega) rfl)
  have B0 := hid (below_alloc w (.cells #[] 9))
  have HR := hid (hR.below B0.out)
  clear hR hps
  go_enter Tryd.func76, Tryd.ntmps76
  go_wp2_with fail
  refine (SplitR_ok s _ (by omega) HR.out).mono ?_
  rintro e w1 ⟨he, rfl⟩
  rw [← HPS.out] at he
  subst he
  have O1 := hid (O0.out.alloc (.cells (ps.map vS).toArray 9))
  have P1 := hid (show ((w.alloc (.cells #[] 9)).alloc (.cells (ps.map vS).toArray 9)).ownsRow w.heap.size 9 1 (.slice (some ⟨w.heap.size + 1, 0, none⟩) ps.length ps.length) ps.length (ps.map vS) by
    have := World.ownsRow_lit (base := w.heap.size) (e := 9) (size := 1) (w.alloc (.cells #[] 9)) (ps.map vS).toArray ps.length (by simp) (by unfold maxLen; omega) (by simp)
    simpa using this)
  rw [← HPS.out]
  have B1 := hid (B0.out.alloc B0.out.size (.cells (ps.map vS).toArray 9))
  clear O0 B0 HR
  go_wp2_with fail
  go_loopw [3, 10] (fun v i wr => ∃ (k g cc : Nat) (P : List Str), k ≤ ps.length ∧ P.length ≤ k ∧ i = .int .i64 k ∧ v = .slice (some ⟨g, 0, none⟩) P.length cc ∧ P = (ps.take k).filter (fun p => !p.isEmpty) ∧ wr.ownsRow w.heap.size 9 1 (.slice (some ⟨g, 0, none⟩) P.length cc) P.length (P.map vS) ∧ wr.ownsRow w.heap.size 9 1 (.slice (some ⟨w.heap.size + 1, 0, none⟩) ps.length ps.length) ps.length (ps.map vS) ∧ g ≠ w.heap.size + 1 ∧ Below w.heap.size w wr) (fun _ i _ => ps.length - (intOf i).toNat)
  case atStart => exact ⟨0, w.heap.size, 0, [], Nat.zero_le _, Nat.le_refl _, rfl, rfl, rfl, O1.out, P1.out, by omega, B1.out⟩
  case round =>
    obtain ⟨k, g, cc, P, hk, hP, rfl, rfl, hPe, hown, hps1, hne, hbel⟩ := hrel
    have HO := hid hown
    have HQ := hid hps1
    have HB := hid hbel
    have HE := hid hPe
    have HN := hid hne
    clear hown hps1 hbel hPe hne O1 P1 B1
    by_cases hlt : k < ps.length
    · have ck : wr.cell? ⟨w.heap.size + 1, k, none⟩ = some (.string (tB ps[k])) := by
        rw [HQ.out.cellAt k (by omega), List.getElem?_map, List.getElem?_eq_getElem hlt]
        rfl
      cases he : ps[k].isEmpty
      · have d := emp_not he
        have HW := hid (words_succ hlt he)
        have HV := hid (show P.map vS ++ [.string (tB ps[k])] = (P ++ [ps[k]]).map vS by rw [List.map_append]; rfl)
        go_wp2_with (at_builtin; refine wpList_app2 (w0 := w) rfl (.tmp 16) (.tmp 18) 99 rfl w.heap.size 9 (.string ⟨#[]⟩) 1 16 Tryd.underlying99 infoStr rfl (by decide) (.slice (some ⟨g, 0, none⟩) P.length cc) _ _ rfl HO.out #[.string (tB ps[k])] 1 1 (by simp [Act.eval]) rfl (by simp [Value.oneCell']) (by omega) HB.out.size HB.out ?_; intro v1 w6 hown1 hbel1 hgr1 hbk1; obtain ⟨g6, c6, rfl, hf6⟩ := own_form hown1 (by omega); obtain ⟨hk1, hk2⟩ := two_kept HQ.out (by simp [Value.ownBlock]; exact fun e => HN.out e.symm) hgr1 hbk1)
        go_roundw
        case rel => exact ⟨k + 1, g6, c6, P ++ [ps[k]], by omega, by rw [List.length_append]; simp; omega, by go_num, by rw [List.length_append]; rfl, by rw [HW.out, ← HE.out], by rw [← HV.out, List.length_append]; exact hown1, hk1, by simp [Value.ownBlock] at hk2; exact fun e => hk2 e.symm, hbel1⟩
        case measure => simp [intOf]; omega
      · have d := emp_is he
        have HW := hid (words_same hlt he)
        go_wp2_with fail
        go_roundw
        case rel => exact ⟨k + 1, g, cc, P, by omega, by omega, by go_num, rfl, by rw [HW.out]; exact HE.out, HO.out, HQ.out, HN.out, HB.out⟩
        case measure => simp [intOf]; omega
    · have hk2 : k = ps.length := by omega
      subst hk2
      have HF := hid (show P = wordsOf s.data.toList by rw [HE.out, List.take_length, wordsOf, ← HPS.out])
      go_wp2_with fail
      go_ret
      refine ⟨⟨some ⟨g, 0, none⟩, cc, ?_, ?_⟩, HB.out⟩
      · rw [← HF.out]
        rfl
      · rw [← HF.out]
        exact strs_own HO.out
end Go.Proofs.YtmfadjdpbobfhaaDoor
