/- l01Split: a text in pieces. -/
import Derived.Test.YtmfadjdpbobfhaaDoorSplitMath
import Derived.Test.YtmfadjdpbobfhaaDoorNumS
import Derived.Test.YtmfadjdpbobfhaaDoorStrs
import Derived.Test.YtmfadjdpbobfhaaDoorRowOps
import Derived.Laws.DeepStrings4
namespace Go.Proofs.YtmfadjdpbobfhaaDoor
open Go.RowKit
set_option linter.unusedVariables false

theorem ext_piece (s : ByteArray) (a b : Nat) : (s.extract a b).data.toList = (s.data.toList.drop a).take (b - a) := by
  rw [ByteArray.data_extract, Array.toList_extract]
theorem vS_ext (s : ByteArray) (a b : Nat) : vS ((s.data.toList.drop a).take (b - a)) = .string (s.extract a b) := by rw [← ext_piece, vS_data]
theorem cut_at {s : ByteArray} {c : UInt8} {f k : Nat} (hf : f ≤ k) (hk : k < s.size) (hc : s[k] = c) : s.data.toList.drop f = (s.data.toList.drop f).take (k - f) ++ c :: s.data.toList.drop (k + 1) := by
  have h1 : (s.data.toList.drop f).drop (k - f) = c :: s.data.toList.drop (k + 1) := by
    rw [List.drop_drop, show f + (k - f) = k by omega, List.drop_eq_getElem_cons (by simpa using hk), atL hk, hc]
  rw [← h1, List.take_append_drop]
theorem not_more {s : ByteArray} {c : UInt8} {f k : Nat} (hf : f ≤ k) (hk : k < s.size) (hc : s[k] ≠ c) (h : c ∉ (s.data.toList.drop f).take (k - f)) : c ∉ (s.data.toList.drop f).take (k + 1 - f) := by
  have e : (s.data.toList.drop f).take (k + 1 - f) = (s.data.toList.drop f).take (k - f) ++ [s[k]] := digs_succ hf hk
  rw [e]
  intro hm
  rcases List.mem_append.1 hm with hm | hm
  · exact h hm
  · exact hc (List.mem_singleton.1 hm).symm

/-- a call's answer: these pieces -/
def PiecesAt (w : World) (e : Ending) (ps : List Str) : Prop := ∃ A cap, e = .returned (.slice A ps.length cap) ∧ StrsAt w A ps
set_option maxHeartbeats 1600000 in
set_option maxRecDepth 100000 in
theorem l01Split_ok (s : ByteArray) (c : UInt8) (w : World) (hs : s.size ≤ 1048576) :
    Calls Tryd.prog 70 #[.string s, .int .u8 c.toNat] w fun e w' => PiecesAt w' e (splitC c s.data.toList) ∧ Below w.heap.size w w' := by
  have O0 := hid (World.ownsRow_lit (e := 9) (size := 1) w #[] 0 (Nat.le_refl _) (by unfold maxLen; omega) rfl)
  have B0 := hid (below_alloc w (.cells #[] 9))
  have hll := lenL s
  go_enter Tryd.func70, Tryd.ntmps70
  go_wp2_with fail
  go_loopw [5, 6, 7] (fun v f i wr => ∃ (P : List Str) (fn k g cc : Nat), fn ≤ k ∧ k ≤ s.size ∧ P.length ≤ fn ∧ f = .int .i64 fn ∧ i = .int .i64 k ∧ v = .slice (some ⟨g, 0, none⟩) P.length cc ∧ wr.ownsRow w.heap.size 9 1 (.slice (some ⟨g, 0, none⟩) P.length cc) P.length (P.map vS) ∧ Below w.heap.size w wr ∧ P ++ splitC c (s.data.toList.drop fn) = splitC c s.data.toList ∧ c ∉ (s.data.toList.drop fn).take (k - fn)) (fun _ _ i _ => s.size - (intOf i).toNat)
  case atStart => exact ⟨[], 0, 0, w.heap.size, 0, Nat.le_refl _, Nat.zero_le _, Nat.le_refl _, rfl, rfl, rfl, O0.out, B0.out, rfl, by simp⟩
  case round =>
    obtain ⟨P, fn, k, g, cc, hf, hk, hP, rfl, rfl, rfl, hown, hbel, hsp, hno⟩ := hrel
    have HO := hid hown
    have HB := hid hbel
    have HS := hid hsp
    have HN := hid hno
    clear hown hbel hsp hno hll
    have q0 : (0 : Int) ≤ (fn : Int) := by omega
    have q1 : (fn : Int) ≤ (k : Int) := by omega
    have q2 : (k : Int) ≤ (s.size : Int) := by omega
    have q3 : (0 : Int) ≤ (k : Int) := by omega
    by_cases hlt : k < s.size
    · by_cases hc : s[k] = c
      · have d : ((s[k].toNat : Int) == (c.toNat : Int)) = true := b_is hc
        have hpn : c ∉ (s.data.toList.drop fn).take (k - fn) := HN.out
        have HE := hid (show (P ++ [(s.data.toList.drop fn).take (k - fn)]) ++ splitC c (s.data.toList.drop (k + 1)) = splitC c s.data.toList by
          have h1 := HS.out
          rw [cut_at hf hlt hc, splitC_hit hpn] at h1
          rw [← h1]
          simp)
        have HV := hid (show P.map vS ++ [.string (s.extract fn k)] = (P ++ [(s.data.toList.drop fn).take (k - fn)]).map vS by rw [List.map_append, List.map_cons, List.map_nil, vS_ext])
        clear hpn
        go_wp2_with (at_builtin; refine wpList_app (w0 := w) rfl (.tmp 20) (.tmp 25) 99 rfl w.heap.size 9 (.string ⟨#[]⟩) 1 16 Tryd.underlying99 infoStr rfl (by decide) _ _ _ rfl HO.out #[.string (s.extract fn k)] 1 1 (by simp [Act.eval]) rfl (by simp [Value.oneCell']) (by omega) HB.out.size HB.out ?_; intro v1 w6 hown1 hbel1 hz1 _; obtain ⟨g6, c6, rfl, hf6⟩ := own_form hown1 (by omega))
        go_roundw
        case rel => exact ⟨P ++ [(s.data.toList.drop fn).take (k - fn)], k + 1, k + 1, g6, c6, Nat.le_refl _, by omega, by rw [List.length_append, List.length_singleton]; omega, by go_num, by go_num, by rw [List.length_append]; rfl, by rw [← HV.out, List.length_append]; exact hown1, hbel1, HE.out, by simp⟩
        case measure => simp [intOf]; omega
      · have d : ((s[k].toNat : Int) == (c.toNat : Int)) = false := b_not hc
        have HM := hid (not_more hf hlt hc HN.out)
        go_wp2_with fail
        go_roundw
        case rel => exact ⟨P, fn, k + 1, g, cc, by omega, by omega, hP, rfl, by go_num, rfl, HO.out, HB.out, HS.out, HM.out⟩
        case measure => simp [intOf]; omega
    · have hk2 : k = s.size := by omega
      subst hk2
      have HE := hid (show P ++ [(s.data.toList.drop fn).take (s.size - fn)] = splitC c s.data.toList by
        have h1 := HS.out
        have e : (s.data.toList.drop fn).take (s.size - fn) = s.data.toList.drop fn := by
          rw [List.take_of_length_le]
          rw [List.length_drop, lenL]
          omega
        have h2 := HN.out
        rw [e] at h2 ⊢
        rw [splitC_miss h2] at h1
        exact h1)
      have HV := hid (show P.map vS ++ [.string (s.extract fn s.size)] = (P ++ [(s.data.toList.drop fn).take (s.size - fn)]).map vS by rw [List.map_append, List.map_cons, List.map_nil, vS_ext])
      go_wp2_with (at_builtin; refine wpList_app (w0 := w) rfl (.tmp 29) (.tmp 33) 99 rfl w.heap.size 9 (.string ⟨#[]⟩) 1 16 Tryd.underlying99 infoStr rfl (by decide) _ _ _ rfl HO.out #[.string (s.extract fn s.size)] 1 1 (by simp [Act.eval]) rfl (by simp [Value.oneCell']) (by omega) HB.out.size HB.out ?_; intro v1 w6 hown1 hbel1 hz1 _; obtain ⟨g6, c6, rfl, hf6⟩ := own_form hown1 (by omega))
      go_ret
      refine ⟨⟨some ⟨g6, 0, none⟩, c6, ?_, ?_⟩, hbel1⟩
      · rw [← HE.out, List.length_append]
        rfl
      · rw [← HE.out]
        refine strs_own (B := w.heap.size) (e := 9) (n := P.length + 1) (c := c6) ?_
        rw [← HV.out]
        exact hown1
end Go.Proofs.YtmfadjdpbobfhaaDoor
