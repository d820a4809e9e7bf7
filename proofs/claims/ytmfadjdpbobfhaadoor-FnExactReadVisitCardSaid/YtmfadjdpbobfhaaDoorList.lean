/- ListText and its reference: numbers with commas between. -/
import Derived.Test.YtmfadjdpbobfhaaDoorDec
namespace Go.Proofs.YtmfadjdpbobfhaaDoor
open Go.RowKit
set_option linter.unusedVariables false

theorem infoS : (Tryd.prog.info? 9).map (fun i => (i.zero, i.size, i.bytes)) = some (some (.string ⟨#[]⟩), 1, 16) := by kernel_rfl

/-- what a list's text asks of its numbers -/
def Small (ns : List Int) : Prop := ns.length ≤ 64 ∧ ∀ n ∈ ns, -1000000000000 ≤ n ∧ n ≤ 1000000000000
theorem Small.wide {ns : List Int} (h : Small ns) : ∀ n ∈ ns, -9223372036854775808 ≤ n ∧ n ≤ 9223372036854775807 := fun n hn => ⟨by have := (h.2 n hn).1; omega, by have := (h.2 n hn).2; omega⟩

theorem listT_size {ns : List Int} (hs : Small ns) : (listT ns).size ≤ 1344 := by
  cases ns with
  | nil => exact Nat.le_trans (Nat.le_refl 1) (by omega)
  | cons n r =>
    have h1 := commasB_size hs.wide
    have h2 := hs.1
    show (commasB (n :: r)).size ≤ _
    omega

def PartsRel (w : World) (ns : List Int) (v i : Value) (wr : World) : Prop :=
  ∃ k : Nat, k ≤ ns.length ∧ i = .int .i64 k ∧ wr.ownsRow w.heap.size 9 1 v k ((ns.take k).map fun n => .string (dec n)) ∧ Below w.heap.size w wr

set_option maxHeartbeats 800000 in
set_option maxRecDepth 100000 in
theorem ListText_ok (A : Option Addr) (c : Nat) (ns : List Int) (w : World) (ht : Tab w) (hA : IntsAt w A ns) (hs : Small ns) :
    Calls Tryd.prog 117 #[.slice A ns.length c] w fun e w' => e = .returned (.string (listT ns)) ∧ Below w.heap.size w w' := by
  have hlen := hs.1
  by_cases hn : ns.length = 0
  · have hnil : ns = [] := List.eq_nil_of_length_eq_zero hn
    subst hnil
    clear hA hs ht hn hlen
    go_enter Tryd.func117, Tryd.ntmps117
    go_wp2_with (go_at_call 102; refine (few_ok _ _ _).mono ?_; rintro e w' ⟨rfl, rfl⟩)
    go_ret
    exact ⟨rfl, Below.refl _ _⟩
  have hne : ns ≠ [] := fun e => hn (by rw [e]; rfl)
  obtain ⟨b, o, rfl, hlt, hcells⟩ := hA hne
  have e0 : ((ns.length : Int) == 0) = false := by rw [beq_eq_false_iff_ne]; omega
  have e1 : (ns.length : Int) ≤ 64 := by omega
  have hpos : 0 < ns.length := by omega
  have HT := hid ht
  have HC := hid hcells
  have HS := hid hs
  have HN := hid hne
  clear hn ht hcells hs hA hne
  go_enter Tryd.func117, Tryd.ntmps117
  go_wp2_with (go_at_call 102; refine (few_ok _ _ _).mono ?_; rintro e w' ⟨rfl, rfl⟩)
  go_loopw [3, 16] (fun v i wr => PartsRel w ns v i wr) (fun _ i _ => ns.length - (intOf i).toNat)
  case atStart => exact ⟨0, Nat.zero_le _, rfl, World.ownsRow_lit _ _ 0 (Nat.le_refl _) (by unfold maxLen; omega) rfl, below_alloc _ _⟩
  case round =>
    obtain ⟨k, hk, rfl, hown, hbel⟩ := hrel
    by_cases hkl : k < ns.length
    · have hcell : wr.cell? ⟨b, o + k, none⟩ = some (.int .i64 ns[k]) := (hbel.cell (p := ⟨b, o + k, none⟩) hlt).trans (HC.out k _ (List.getElem?_eq_getElem hkl))
      have hin : inB ns[k] (-1000000000000) 1000000000000 = true := inB_iff.2 (HS.out.2 _ (List.getElem_mem hkl))
      have hb1 := (HS.out.wide _ (List.getElem_mem hkl)).1
      have hb2 := (HS.out.wide _ (List.getElem_mem hkl)).2
      have HTr := hid (HT.out.below hbel)
      go_wp2_with (first
        | (go_at_call 88; refine (within_ok _ _ _ _).mono ?_; rintro e w' ⟨rfl, rfl⟩)
        | (go_at_call 59; refine (Decimal_ok _ _ hb1 hb2 HTr.out).mono ?_; rintro e w2 ⟨rfl, hb⟩; have hown2 := own_below hown hb; have hbel2 := below_up hbel hbel.size hb; clear hown hbel hcell hb)
        | (at_builtin; refine wpList_app rfl _ _ 99 rfl w.heap.size 9 (.string ⟨#[]⟩) 1 16 Tryd.underlying99 infoS rfl (by decide) _ _ _ rfl hown2 #[.string (dec ns[k])] 1 1 rfl rfl (by simp [Value.oneCell']) (by omega) hbel2.size hbel2 ?_; intro v1 w1 hown1 hbel1 hz1 _))
      go_roundw
      case rel =>
        refine ⟨k + 1, by omega, by go_num, ?_, hbel1⟩
        rw [take_snoc' hkl, List.map_append]
        exact hown1
      case measure => simp [intOf]; omega
    · have hk2 : k = ns.length := by omega
      subst hk2
      rw [List.take_length] at hown
      obtain ⟨g, cap, hv, _, hg, hcap⟩ := own_form hown (by omega)
      subst hv
      have hl2 : (ns.map dec).length = ns.length := List.length_map _
      have hj : ∀ (j : Nat) x, (ns.map dec)[j]? = some x → wr.cell? ⟨g, 0 + j, none⟩ = some (.string x) := fun j x hx => by
        have hjl : j < ns.length := by have := (List.getElem?_eq_some_iff.1 hx).1; simpa using this
        rw [Nat.zero_add, hown.cellAt j (by omega), List.getElem?_map, List.getElem?_eq_getElem hjl]
        rw [List.getElem?_map, List.getElem?_eq_getElem hjl] at hx
        simp only [Option.map_some, Option.some.injEq] at hx ⊢
        rw [hx]
      have hJ := Tryd.strings_Join g 0 cap (ns.map dec) ⟨#[44]⟩ wr hj hg (by rw [hl2]; omega) (by rw [hl2]; exact hcap) (by
        have := commasB_size HS.out.wide
        rw [← join_dec] at this
        have e : ∀ l : List UInt8, (⟨l.toArray⟩ : ByteArray).size = l.length := fun l => by simp [ByteArray.size]
        rw [e] at this
        omega)
      rw [hl2, join_dec] at hJ
      have HJ := hid hJ
      have HL := hid (listT_ne HN.out)
      clear hJ hj hown hl2
      go_wp2_with (go_at_call 146; refine HJ.out.mono ?_; rintro e w2 ⟨rfl, hb⟩)
      go_ret
      exact ⟨by rw [HL.out]; rfl, below_up hbel hbel.size hb⟩

theorem named_ok (id : ByteArray) (A : Option Addr) (c : Nat) (ns : List Int) (w : World) (hid_ : id.size ≤ 10) (ht : Tab w) (hA : IntsAt w A ns) (hs : Small ns) :
    Calls Tryd.prog 68 #[.string id, .slice A ns.length c] w fun e w' => e = .returned (.string (id ++ ⟨#[32]⟩ ++ listT ns)) ∧ Below w.heap.size w w' := by
  have hsz := listT_size hs
  have g1 : ¬ 9223372036854775807 < id.size + 1 := by omega
  have g2 : ¬ 9223372036854775807 < id.size + 1 + (listT ns).size := by omega
  have HT := hid ht
  have HA := hid hA
  have HS := hid hs
  clear ht hA hs
  go_enter Tryd.func68, Tryd.ntmps68
  go_wp2_with (go_at_call 117; refine (ListText_ok A c ns _ HT.out HA.out HS.out).mono ?_; rintro e w1 ⟨rfl, hb⟩)
  go_ret
  exact ⟨rfl, hb⟩

set_option maxHeartbeats 800000 in
set_option maxRecDepth 100000 in
theorem l01List_ok (A : Option Addr) (c : Nat) (ns : List Int) (w : World) (hA : IntsAt w A ns) (hs : Small ns) (h0 : ∀ n ∈ ns, 0 ≤ n) :
    Calls Tryd.prog 112 #[.slice A ns.length c] w fun e w' => e = .returned (.string (listT ns)) ∧ Below w.heap.size w w' := by
  have hlen := hs.1
  by_cases hn : ns.length = 0
  · have hnil : ns = [] := List.eq_nil_of_length_eq_zero hn
    subst hnil
    clear hA hs hn hlen h0
    go_enter Tryd.func112, Tryd.ntmps112
    go_wp2_with fail
    go_ret
    exact ⟨rfl, Below.refl _ _⟩
  have hne : ns ≠ [] := fun e => hn (by rw [e]; rfl)
  obtain ⟨b, o, rfl, hlt, hcells⟩ := hA hne
  have e0 : ((ns.length : Int) == 0) = false := by rw [beq_eq_false_iff_ne]; omega
  have HC := hid hcells
  have HS := hid hs
  have HN := hid hne
  have H0 := hid h0
  have hpos : 0 < ns.length := by omega
  clear hn hcells hs hA hne h0
  go_enter Tryd.func112, Tryd.ntmps112
  go_wp2_with fail
  go_loopw [3, 4] (fun v i wr => ∃ k : Nat, k ≤ ns.length ∧ i = .int .i64 k ∧ v = .string (commasB (ns.take k)) ∧ Below w.heap.size w wr) (fun _ i _ => ns.length - (intOf i).toNat)
  case atStart => exact ⟨0, Nat.zero_le _, rfl, rfl, Below.refl _ _⟩
  case round =>
    obtain ⟨k, hk, rfl, rfl, hbel⟩ := hrel
    by_cases hkl : k < ns.length
    · have hcell : wr.cell? ⟨b, o + k, none⟩ = some (.int .i64 ns[k]) := (hbel.cell (p := ⟨b, o + k, none⟩) hlt).trans (HC.out k _ (List.getElem?_eq_getElem hkl))
      have hb1 := H0.out _ (List.getElem_mem hkl)
      have hb2 := (HS.out.wide _ (List.getElem_mem hkl)).2
      have hd := dec_size (by omega) hb2
      have hsz : (commasB (ns.take k)).size ≤ 1344 := by
        have h1 := commasB_size (mem_take (k := k) HS.out.wide)
        rw [List.length_take] at h1
        omega
      rcases Nat.lt_or_ge k 1 with hk0 | hk0
      · have HX := hid (commasB_first hk0 hkl)
        have g1 : ¬ 9223372036854775807 < (commasB (ns.take k)).size + (dec ns[k]).size := by omega
        go_wp2_with (go_at_call 53; refine (l01Dec_ok _ _ hb1 hb2).mono ?_; rintro e w2 ⟨rfl, hb⟩)
        go_roundw
        case rel => exact ⟨k + 1, by omega, by go_num, by rw [HX.out], below_up hbel hbel.size hb⟩
        case measure => simp [intOf]; omega
      · have HX := hid (commasB_next hk0 hkl)
        have g1 : ¬ 9223372036854775807 < (commasB (ns.take k)).size + 1 := by omega
        have g2 : ¬ 9223372036854775807 < (commasB (ns.take k)).size + 1 + (dec ns[k]).size := by omega
        go_wp2_with (go_at_call 53; refine (l01Dec_ok _ _ hb1 hb2).mono ?_; rintro e w2 ⟨rfl, hb⟩)
        go_roundw
        case rel => exact ⟨k + 1, by omega, by go_num, by rw [HX.out], below_up hbel hbel.size hb⟩
        case measure => simp [intOf]; omega
    · have hk2 : k = ns.length := by omega
      subst hk2
      have HL := hid (listT_ne HN.out)
      go_wp2_with fail
      go_ret
      exact ⟨by rw [HL.out]; simp, hbel⟩

end Go.Proofs.YtmfadjdpbobfhaaDoor
