/- ReadDecimal. -/
import Derived.Test.YtmfadjdpbobfhaaDoorNumR
import Derived.Test.YtmfadjdpbobfhaaDoorText0
namespace Go.Proofs.YtmfadjdpbobfhaaDoor
open Go.RowKit
set_option linter.unusedVariables false

theorem var_stays {P : Program} {W W' : World} {n : String} {cs : Array Value} (h : Below W.heap.size W W') (hv : W.var? P n = some cs) : W'.var? P n = some cs := by
  unfold World.var? at hv ⊢
  cases hg : P.globalNamed n with
  | none => simp [hg] at hv
  | some g =>
    simp only [hg, Option.bind_some] at hv ⊢
    have hlt : g < W.heap.size := by
      rcases Nat.lt_or_ge g W.heap.size with h' | h'
      · exact h'
      · simp [Array.getElem?_eq_none h'] at hv
    rw [h.block g hlt]
    exact hv
/-- the variables that reading a number reads -/
def RdV (w : World) : Prop := ((∃ t p, w.var? Tryd.prog "strconv.ErrSyntax" = some #[.iface t p]) ∧ ∃ t p, w.var? Tryd.prog "strconv.ErrRange" = some #[.iface t p]) ∧ Tab w
theorem RdV.below {w w' : World} (h : RdV w) (hb : Below w.heap.size w w') : RdV w' := by
  obtain ⟨⟨⟨t, p, h1⟩, t', p', h2⟩, h3⟩ := h
  exact ⟨⟨⟨t, p, var_stays hb h1⟩, t', p', var_stays hb h2⟩, h3.below hb⟩
theorem below_turn {w w' : World} {e : TypeId} (h : w' = w ∨ ∃ t, w' = Lib.bytesWorld w e t) : Below w.heap.size w w' := by
  rcases h with rfl | ⟨t, rfl⟩
  · exact Below.refl _ _
  · exact Joins.below_bytesWorld _ _ _ _ (Nat.le_refl _)
theorem bytes_ne {a b : ByteArray} (h : a.data.toList ≠ b.data.toList) : (a.toList == b.toList) = false := by
  rw [beq_eq_false_iff_ne, Lib.toList_data, Lib.toList_data]
  exact h

set_option maxHeartbeats 1600000 in
set_option maxRecDepth 100000 in
theorem ReadDecimal_ok (s : ByteArray) (w : World) (hs : s.size ≤ 1048576) (hR : RdV w) :
    Calls Tryd.prog 74 #[.string s] w fun e w' => e = .returned (.tuple #[.int .i64 ((numO s.data.toList).getD 0), .bool (numO s.data.toList).isSome]) ∧ Below w.heap.size w w' := by
  obtain ⟨⟨⟨t1, p1, hv1⟩, t2, p2, hv2⟩, ht⟩ := hR
  obtain ⟨T, hT⟩ : ∃ T : ByteArray, T = ⟨(Lib.trimPrefix s.data.toList [45]).toArray⟩ := ⟨_, rfl⟩
  have hTl : T.size = (Lib.trimPrefix s.data.toList [45]).length := by rw [hT]; simp [ByteArray.size]
  have HTr := hid hT
  have H1 := hid hv1
  have H2 := hid hv2
  have HT := hid ht
  clear hT hv1 hv2 ht
  by_cases hl : 18 < T.size
  · have HN := hid (num_long (l := s.data.toList) (by rw [← hTl]; exact hl))
    clear hTl
    go_enter Tryd.func74, Tryd.ntmps74
    go_wp2_with (go_at_call 123; refine (Tryd.strings_TrimPrefix s ⟨#[45]⟩ _).mono ?_; rintro e w' ⟨he, rfl⟩; obtain rfl : e = .returned (.string T) := (he.trans (by rw [HTr.out])); clear he)
    go_ret2
    exact ⟨num_none HN.out, Below.refl _ _⟩
  have hl2 : (Lib.trimPrefix s.data.toList [45]).length ≤ 18 := by omega
  have HL2 := hid hl2
  clear hTl hl2
  cases h : Lib.parseIntB 64 s.data.toList
  case ok v =>
    have hb := Lib.parseIntB_bounds h
    have b1 : -9223372036854775808 ≤ v := by have := hb.1; simp at this; omega
    have b2 : v ≤ 9223372036854775807 := by have := hb.2; simp at this; omega
    clear hb
    by_cases hd : Lib.itoa v = s.data.toList
    · have HN := hid (num_is HL2.out hd)
      have hds : dec v = s := by
        apply ByteArray.ext
        apply Array.toList_inj.1
        exact hd
      have HP := hid h
      clear h hd
      go_enter Tryd.func74, Tryd.ntmps74
      go_wp2_with (first
        | (go_at_call 123; refine (Tryd.strings_TrimPrefix s ⟨#[45]⟩ _).mono ?_; rintro e w' ⟨he, rfl⟩; obtain rfl : e = .returned (.string T) := (he.trans (by rw [HTr.out])); clear he)
        | (go_at_call 124; refine (Tryd.strconv_ParseInt_10_at64_ok s (by omega) v HP.out _).mono ?_; rintro e w1 ⟨rfl, hw⟩; have HB := hid (below_turn hw); have HT := hid (HT.out.below HB.out); clear hw)
        | (go_at_call 59; refine (Decimal_ok v _ b1 b2 HT.out).mono ?_; rintro e w2 ⟨rfl, hb⟩; have HB := hid (below_trans HB.out hb); clear hb))
      go_ret2
      exact ⟨num_some HN.out, HB.out⟩
    · have HN := hid (num_other h hd)
      have hne : (dec v).data.toList ≠ s.data.toList := hd
      have d1 := bytes_ne hne
      have HP := hid h
      clear h hd hne
      go_enter Tryd.func74, Tryd.ntmps74
      go_wp2_with (first
        | (go_at_call 123; refine (Tryd.strings_TrimPrefix s ⟨#[45]⟩ _).mono ?_; rintro e w' ⟨he, rfl⟩; obtain rfl : e = .returned (.string T) := (he.trans (by rw [HTr.out])); clear he)
        | (go_at_call 124; refine (Tryd.strconv_ParseInt_10_at64_ok s (by omega) v HP.out _).mono ?_; rintro e w1 ⟨rfl, hw⟩; have HB := hid (below_turn hw); have HT := hid (HT.out.below HB.out); clear hw)
        | (go_at_call 59; refine (Decimal_ok v _ b1 b2 HT.out).mono ?_; rintro e w2 ⟨rfl, hb⟩; have HB := hid (below_trans HB.out hb); clear hb))
      go_ret2
      exact ⟨num_none HN.out, HB.out⟩
  case range =>
    have HN := hid (num_parse (l := s.data.toList) (fun v hv => by rw [h] at hv; cases hv))
    have HP := hid h
    clear h
    go_enter Tryd.func74, Tryd.ntmps74
    go_wp2_with (first
      | (go_at_call 123; refine (Tryd.strings_TrimPrefix s ⟨#[45]⟩ _).mono ?_; rintro e w' ⟨he, rfl⟩; obtain rfl : e = .returned (.string T) := (he.trans (by rw [HTr.out])); clear he)
      | (go_at_call 124; refine (Any.strconv_ParseInt_10_at64_range_var Tryd.laysC174 s (by omega) HP.out t2 p2 _ H2.out).mono ?_; rintro e w1 ⟨N, rfl, _, _, hb⟩))
    go_ret2
    exact ⟨num_none HN.out, hb⟩
  all_goals
    have HN := hid (num_parse (l := s.data.toList) (fun v hv => by rw [h] at hv; cases hv))
    have HP := hid h
    clear h
    go_enter Tryd.func74, Tryd.ntmps74
    go_wp2_with (first
      | (go_at_call 123; refine (Tryd.strings_TrimPrefix s ⟨#[45]⟩ _).mono ?_; rintro e w' ⟨he, rfl⟩; obtain rfl : e = .returned (.string T) := (he.trans (by rw [HTr.out])); clear he)
      | (go_at_call 124; refine (Any.strconv_ParseInt_10_at64_syntax_var Tryd.laysC174 s (by omega) HP.out t1 p1 _ H1.out).mono ?_; rintro e w1 ⟨N, rfl, _, _, hb⟩))
    go_ret2
    exact ⟨num_none HN.out, hb⟩
end Go.Proofs.YtmfadjdpbobfhaaDoor
