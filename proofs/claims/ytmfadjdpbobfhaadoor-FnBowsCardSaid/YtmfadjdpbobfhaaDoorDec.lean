/- spec's l01Dec gives the decimal numeral. -/
import Derived.Test.YtmfadjdpbobfhaaDoorText0
namespace Go.Proofs.YtmfadjdpbobfhaaDoor
open Go.RowKit
set_option linter.unusedVariables false

/-- a byte as a cell -/
def bv (c : UInt8) : Value := .int .u8 c.toNat
theorem bv_one {l : List UInt8} : ∀ u ∈ l.map bv, u.oneCell' = true := by
  intro u hu
  obtain ⟨c, _, rfl⟩ := List.mem_map.1 hu
  rfl
/-- the digits of u from the last to the first; none for 0 -/
def revD (u : Nat) : List UInt8 := if u = 0 then [] else (Lib.decDigits u).reverse
theorem revD_step {u : Nat} (h : 0 < u) : revD u = UInt8.ofNat (48 + u % 10) :: revD (u / 10) := by
  unfold revD
  rw [if_neg (by omega)]
  by_cases h1 : u < 10
  · rw [Lib.decDigits, dif_pos h1, if_pos (by omega)]
    simp [Nat.mod_eq_of_lt h1]
  · rw [Lib.decDigits, dif_neg h1, if_neg (by omega)]
    simp
theorem revD_length {u : Nat} (h : u ≤ 9223372036854775807) : (revD u).length ≤ 20 := by
  unfold revD
  split
  · simp
  · rw [List.length_reverse, Lib.decDigits_length]
    have := nDigits_le 18 u (by omega)
    omega
theorem info5 : (Tryd.prog.info? 5).map (fun i => (i.zero, i.size, i.bytes)) = some (some (.int .u8 0), 1, 1) := by kernel_rfl

def DRel (B N : Nat) (w : World) (v m : Value) (wr : World) : Prop := ∃ (u : Nat) (ds : List UInt8), m = .int .i64 u ∧ u ≤ N ∧ ds ++ revD u = revD N ∧ wr.ownsRow B 5 1 v ds.length (ds.map bv) ∧ Below B w wr

def ORel (wr : World) (ds : List UInt8) (v i : Value) (wx : World) : Prop := ∃ j : Nat, j ≤ ds.length ∧ i = .int .i64 ((j : Int) - 1) ∧ wx.ownsRow wr.heap.size 5 1 v (ds.drop j).reverse.length ((ds.drop j).reverse.map bv) ∧ Below wr.heap.size wr wx

theorem dec_zero : dec 0 = ⟨#[48]⟩ := by
  unfold dec Lib.itoa
  rw [if_neg (by omega), Lib.decDigits, dif_pos (by decide)]
  rfl
theorem l01Dec_zero (w : World) : Calls Tryd.prog 53 #[.int .i64 0] w fun e w' => e = .returned (.string (dec 0)) ∧ Below w.heap.size w w' := by
  go_enter Tryd.func53, Tryd.ntmps53
  go_wp2_with fail
  go_ret
  exact ⟨by rw [dec_zero]; rfl, Below.refl _ _⟩

set_option maxHeartbeats 800000 in
set_option maxRecDepth 100000 in
theorem l01Dec_pos (N : Nat) (w : World) (h0 : 0 < N) (h1 : N ≤ 9223372036854775807) : Calls Tryd.prog 53 #[.int .i64 N] w fun e w' => e = .returned (.string (dec N)) ∧ Below w.heap.size w w' := by
  have e0 : ((N : Int) == 0) = false := by rw [beq_eq_false_iff_ne]; omega
  go_enter Tryd.func53, Tryd.ntmps53
  go_wp2_with fail
  go_loopw [3, 4] (fun v m wr => DRel w.heap.size N w v m wr) (fun _ m _ => (intOf m).toNat)
  case atStart => exact ⟨N, [], rfl, Nat.le_refl _, rfl, World.ownsRow_lit _ _ 0 (Nat.le_refl _) (by unfold maxLen; omega) rfl, (Below.refl _ _).alloc (Nat.le_refl _) _⟩
  case round =>
    obtain ⟨u, ds, rfl, hu, hds, hown, hbel⟩ := hrel
    have HD := Lib.hid hds
    clear hds
    by_cases hz : 0 < u
    · have e1 : ((u : Int) != 0) = true := by rw [bne_iff_ne]; omega
      have hdl : ds.length ≤ 20 := by
        have h2 := congrArg List.length HD.out
        have h3 := revD_length h1
        rw [List.length_append] at h2
        omega
      go_wp2_with (at_builtin; refine wpList_app rfl _ _ 59 rfl w.heap.size 5 (.int .u8 0) 1 1 Tryd.underlying59 info5 rfl (by decide) _ _ _ rfl hown #[.int .u8 (48 + (u : Int) % 10)] 1 1 rfl rfl (by simp [Value.oneCell']) (by omega) hbel.size hbel ?_; intro v1 w1 hown1 hbel1 hz1 _)
      go_roundw
      case rel =>
        refine ⟨u / 10, ds ++ [UInt8.ofNat (48 + u % 10)], by go_num, by omega, ?_, ?_, hbel1⟩
        · rw [List.append_assoc, List.singleton_append, ← revD_step hz]; exact HD.out
        · have e3 : (ds ++ [UInt8.ofNat (48 + u % 10)]).map bv = ds.map bv ++ [Value.int .u8 (48 + (u : Int) % 10)] := by simp [bv]; omega
          rw [e3, List.length_append]
          exact hown1
      case measure => simp [intOf]; omega
    · have hz0 : u = 0 := by omega
      subst hz0
      have hds : ds = (Lib.decDigits N).reverse := by
        have h2 := HD.out
        rw [revD, revD, if_pos rfl, if_neg (by omega)] at h2
        simpa using h2
      have hL : ds.length ≤ 20 ∧ 0 < ds.length := by
        rw [hds, List.length_reverse, Lib.decDigits_length]
        exact ⟨by have := nDigits_le 18 N (by omega); omega, Lib.nDigits_pos N⟩
      obtain ⟨hL1, hL2⟩ := hL
      obtain ⟨g, cap, hv, _, hg, _⟩ := own_form hown (by omega)
      subst hv
      have hcd : ∀ j (hj : j < ds.length), wr.cell? ⟨g, j, none⟩ = some (bv ds[j]) := fun j hj => by
        rw [hown.cellAt j (by omega), List.getElem?_map, List.getElem?_eq_getElem hj]; rfl
      have HDS := hid hds
      have HC := hid hcd
      clear hds hcd HD hown
      obtain ⟨wo, rfl⟩ : ∃ wo : World, wo = wr := ⟨_, rfl⟩
      go_wp2_with fail
      go_loopw [6, 7] (fun v i wx => ORel wo ds v i wx) (fun _ i _ => (intOf i + 1).toNat)
      case atStart => exact ⟨ds.length, Nat.le_refl _, by go_num, by rw [List.drop_length]; exact World.ownsRow_lit _ _ 0 (Nat.le_refl _) (by unfold maxLen; omega) rfl, below_alloc _ _⟩
      case round =>
        obtain ⟨j, hj, rfl, hown, hbx⟩ := hrel
        by_cases hz : 0 < j
        · have hcell : wr.cell? ⟨g, j - 1, none⟩ = some (.int .u8 (ds[j - 1].toNat : Int)) := (hbx.cell (p := ⟨g, j - 1, none⟩) hg).trans (HC.out (j - 1) (by omega))
          have e4 : ((j : Int) - 1).toNat = j - 1 := by omega
          have e6 : (j : Int) - 1 < ds.length := by omega
          have e7 : (0 : Int) ≤ (j : Int) - 1 := by omega
          go_wp2_with (at_builtin; refine wpList_app rfl _ _ 59 rfl wo.heap.size 5 (.int .u8 0) 1 1 Tryd.underlying59 info5 rfl (by decide) _ _ _ rfl hown #[.int .u8 (ds[j - 1].toNat : Int)] 1 1 rfl rfl (by simp [Value.oneCell']) (by simp; omega) hbx.size hbx ?_; intro v1 w1 hown1 hbel1 hz1 _)
          go_roundw
          case rel =>
            refine ⟨j - 1, by omega, by go_num, ?_, hbel1⟩
            rw [List.drop_eq_getElem_cons (by omega : j - 1 < ds.length)]
            have e5 : j - 1 + 1 = j := by omega
            rw [e5, List.reverse_cons, List.map_append, List.length_append]
            exact hown1
          case measure => simp [intOf]; omega
        · have hj0 : j = 0 := by omega
          subst hj0
          simp only [List.drop_zero, List.length_reverse] at hown
          obtain ⟨g2, cap2, hv2, _, _, _⟩ := own_form hown (by omega)
          subst hv2
          have hout := fun k (hk : k < ds.reverse.length) => show wr.cell? ((⟨g2, 0, none⟩ : Addr).add k) = some (.int .u8 (ds.reverse[k].toNat : Int)) by
            have hadd : (⟨g2, 0, none⟩ : Addr).add k = ⟨g2, k, none⟩ := by unfold Addr.add; split <;> simp_all
            rw [hadd, hown.cellAt k (by simpa using hk), List.getElem?_map, List.getElem?_eq_getElem hk]; rfl
          have hconv := run_convert_bytes_back (P := Tryd.prog) wr 59 9 5 ⟨g2, 0, none⟩ cap2 _ Tryd.underlying59 Tryd.underlying5 Tryd.underlying9 hout
          rw [List.length_reverse] at hconv
          have hdec := hid (show (⟨ds.reverse.toArray⟩ : ByteArray) = dec N by
            rw [HDS.out, List.reverse_reverse]
            unfold dec Lib.itoa
            rw [if_neg (by omega)]
            rfl)
          clear hout hown
          go_wp2_with fail
          go_ret
          exact ⟨by rw [← hdec.out]; simp, hbel.trans (hbx.mono hbel.size)⟩

theorem l01Dec_ok (n : Int) (w : World) (h0 : 0 ≤ n) (h1 : n ≤ 9223372036854775807) : Calls Tryd.prog 53 #[.int .i64 n] w fun e w' => e = .returned (.string (dec n)) ∧ Below w.heap.size w w' := by
  obtain ⟨N, rfl⟩ := Int.eq_ofNat_of_zero_le h0
  rcases Nat.eq_zero_or_pos N with h | h
  · subst h; exact l01Dec_zero w
  · exact l01Dec_pos N w h (by omega)

end Go.Proofs.YtmfadjdpbobfhaaDoor
