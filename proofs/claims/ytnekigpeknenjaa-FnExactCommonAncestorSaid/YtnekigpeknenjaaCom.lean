/- CommonAncestor and its reference. -/
import Derived.Test.YtnekigpeknenjaaHist
import Derived.Test.YtnekigpeknenjaaRet
import Derived.Test.YtnekigpeknenjaaRowOps
namespace Go.Proofs.Ytnekigpeknenjaa
open Go.RowKit
set_option linter.unusedVariables false

theorem own_src {w : World} {B : Nat} {e : TypeId} {k : Nat} {A : Option Addr} {n c : Nat} {xs : List Value} (h : w.ownsRow B e k (.slice A n c) n xs) : SrcAt w A xs := fun hne => by
  rcases h.2 with ⟨h1, h2⟩ | ⟨g, cap, cur, hv, r⟩
  · have := h.1
    rw [h2] at this
    exact absurd (List.eq_nil_of_length_eq_zero (by simpa using this)) hne
  · injection hv with hA
    subst hA
    exact ⟨_, rfl, h.cells (g := g) rfl⟩

/-- a number's place in a list; -1 if it is not there -/
theorem Index_ok (A : Option Addr) (c : Nat) (ns : List Int) (p : Int) (w : World) (hA : IntsAt w A ns) (hn : ns.length ≤ 1048576) :
    Calls Try.prog 198 #[.slice A ns.length c, .int .i64 p] w fun e w' => (∃ r : Int, e = .returned (.int .i64 r) ∧ -1 ≤ r ∧ r ≤ 1048576 ∧ (0 ≤ r ↔ ns.contains p = true)) ∧ w = w' := by
  have HA := hid hA
  clear hA
  go_enter Try.func198, Try.ntmps198
  go_wp2_with fail
  go_loop [8] (fun i => ∃ k : Nat, k ≤ ns.length ∧ i = .int .i64 k ∧ ∀ j (h : j < ns.length), j < k → ns[j] ≠ p) (fun i => ns.length - (intOf i).toNat)
  case atStart => exact ⟨0, Nat.zero_le _, rfl, fun _ _ h => absurd h (by omega)⟩
  case round =>
    obtain ⟨k, hk, rfl, hall⟩ := hrel
    have HL := hid hall
    clear hall
    by_cases hkl : k < ns.length
    · obtain ⟨b, o, rfl, hlt, hc⟩ := HA.out (by intro e; rw [e] at hkl; exact absurd hkl (by simp))
      have hcell : w.cell? ⟨b, o + k, none⟩ = some (.int .i64 ns[k]) := hc k _ (List.getElem?_eq_getElem hkl)
      have q0 : (0 : Int) ≤ (k : Int) := by omega
      have q1 : (k : Int) < ns.length := by omega
      clear hc
      by_cases hp : p = ns[k]
      · have e0 : (p == ns[k]) = true := by rw [beq_iff_eq]; exact hp
        have HP := hid (show ns.contains p = true by rw [List.contains_iff_mem, hp]; exact List.getElem_mem hkl)
        clear hp
        go_wp2_with fail
        go_ret
        exact ⟨⟨_, rfl, by omega, by omega, ⟨fun _ => by first | exact HP.out | exact List.contains_iff_mem.1 HP.out, fun _ => by omega⟩⟩, rfl⟩
      · have e0 : (p == ns[k]) = false := by rw [beq_eq_false_iff_ne]; exact hp
        have HS := hid (show ∀ j (h : j < ns.length), j < k + 1 → ns[j] ≠ p from fun j h hj => by
          rcases Nat.lt_or_ge j k with h3 | h3
          · exact HL.out j h h3
          · have e : j = k := by omega
            subst e; exact fun h => hp h.symm)
        clear hp
        go_wp2_with fail
        go_round
        case rel => exact ⟨k + 1, by omega, by go_num, HS.out⟩
        case measure => simp [intOf]; omega
    · have HP := hid (show ns.contains p = false by
        rw [Bool.eq_false_iff]
        intro h
        rw [List.contains_iff_mem] at h
        obtain ⟨j, hj, he⟩ := List.mem_iff_getElem.1 h
        exact HL.out j hj (by omega) he)
      go_wp2_with fail
      go_ret
      exact ⟨⟨_, rfl, by omega, by omega, ⟨fun h => absurd h (by omega), fun h => by have h2 : ns.contains p = true := (by first | exact h | exact List.contains_iff_mem.2 h); rw [HP.out] at h2; cases h2⟩⟩, rfl⟩
theorem Contains_ok (A : Option Addr) (c : Nat) (ns : List Int) (p : Int) (w : World) (hA : IntsAt w A ns) (hn : ns.length ≤ 1048576) :
    ∀ n, n = ns.length → ∀ r, ns.contains p = r → Calls Try.prog 168 #[.slice A n c, .int .i64 p] w fun e w' => e = .returned (.bool r) ∧ w = w' := by
  rintro _ rfl _ rfl
  go_enter Try.func168, Try.ntmps168
  go_wp2_with (go_at_call 198; refine (Index_ok A c ns p _ hA hn).mono ?_; rintro e w' ⟨⟨r, rfl, r0, r1, r2⟩, rfl⟩; have R2 := hid r2; clear r2)
  go_ret
  exact ⟨ret_bool (by have h := R2.out; rw [Bool.eq_iff_iff, ← h]; simp only [decide_eq_true_eq]), rfl⟩
theorem l00Has_ok (A : Option Addr) (c : Nat) (ns : List Int) (p : Int) (w : World) (hA : IntsAt w A ns) (hn : ns.length ≤ 1048576) :
    ∀ n, n = ns.length → ∀ r, ns.contains p = r → Calls Try.prog 167 #[.slice A n c, .int .i64 p] w fun e w' => e = .returned (.bool r) ∧ w = w' := by
  rintro _ rfl r hr
  have HR := hid hr
  clear hr
  have HA := hid hA
  clear hA
  go_enter Try.func167, Try.ntmps167
  go_wp2_with fail
  go_loop [5] (fun i => ∃ k : Nat, k ≤ ns.length ∧ i = .int .i64 k ∧ ∀ j (h : j < ns.length), j < k → ns[j] ≠ p) (fun i => ns.length - (intOf i).toNat)
  case atStart => exact ⟨0, Nat.zero_le _, rfl, fun _ _ h => absurd h (by omega)⟩
  case round =>
    obtain ⟨k, hk, rfl, hall⟩ := hrel
    have HL := hid hall
    clear hall
    by_cases hkl : k < ns.length
    · obtain ⟨b, o, rfl, hlt, hc⟩ := HA.out (by intro e; rw [e] at hkl; exact absurd hkl (by simp))
      have hcell : w.cell? ⟨b, o + k, none⟩ = some (.int .i64 ns[k]) := hc k _ (List.getElem?_eq_getElem hkl)
      have q0 : (0 : Int) ≤ (k : Int) := by omega
      have q1 : (k : Int) < ns.length := by omega
      clear hc
      by_cases hp : ns[k] = p
      · have e0 : (ns[k] == p) = true := by rw [beq_iff_eq]; exact hp
        have HP := hid (show ns.contains p = true by rw [List.contains_iff_mem, ← hp]; exact List.getElem_mem hkl)
        clear hp
        go_wp2_with fail
        go_ret
        exact ⟨ret_bool (by rw [← HR.out, HP.out]), rfl⟩
      · have e0 : (ns[k] == p) = false := by rw [beq_eq_false_iff_ne]; exact hp
        have HS := hid (show ∀ j (h : j < ns.length), j < k + 1 → ns[j] ≠ p from fun j h hj => by
          rcases Nat.lt_or_ge j k with h3 | h3
          · exact HL.out j h h3
          · have e : j = k := by omega
            subst e; exact hp)
        clear hp
        go_wp2_with fail
        go_round
        case rel => exact ⟨k + 1, by omega, by go_num, HS.out⟩
        case measure => simp [intOf]; omega
    · have HP := hid (show ns.contains p = false by
        rw [Bool.eq_false_iff]
        intro h
        rw [List.contains_iff_mem] at h
        obtain ⟨j, hj, he⟩ := List.mem_iff_getElem.1 h
        exact HL.out j hj (by omega) he)
      go_wp2_with fail
      go_ret
      exact ⟨ret_bool (by rw [← HR.out, HP.out]), rfl⟩

/-- the first of one list that the other holds; 0 if there is none -/
def firstIn (one two : List Int) : Int := (one.find? fun p => two.contains p).getD 0
theorem firstIn_at {one two : List Int} {k : Nat} (hk : k < one.length) (h : ∀ j (h : j < one.length), j < k → two.contains one[j] = false) (h1 : two.contains one[k] = true) : firstIn one two = one[k] := by
  have e : one.find? (fun p => two.contains p) = some one[k] := by
    rw [List.find?_eq_some_iff_getElem]
    exact ⟨h1, k, hk, rfl, fun j hj => by rw [h j (by omega) hj]; rfl⟩
  rw [firstIn, e]
  rfl
theorem firstIn_none {one two : List Int} (h : ∀ j (h : j < one.length), two.contains one[j] = false) : firstIn one two = 0 := by
  have e : one.find? (fun p => two.contains p) = none := by
    rw [List.find?_eq_none]
    intro x hx
    obtain ⟨j, hj, rfl⟩ := List.mem_iff_getElem.1 hx
    rw [h j hj]
    exact Bool.false_ne_true
  rw [firstIn, e]
  rfl
theorem contains_swap (l : List Int) (b p : Int) : (l ++ [b]).contains p = (b :: l).contains p := by
  rw [Bool.eq_iff_iff, List.contains_iff_mem, List.contains_iff_mem]
  simp only [List.mem_append, List.mem_cons, List.not_mem_nil, or_false]
  exact or_comm
noncomputable def comN (xs : List DVersion) (a b : Nat) : Int := firstIn ((a : Int) :: ancN xs a) ((b : Int) :: ancN xs b)
noncomputable def fCom (xs : List DVersion) (a b : Int) : Int × Int :=
  if histB xs = false then (0, 1) else if (inB a 1 xs.length && inB b 1 xs.length) = false then (0, 3) else (comN xs a.toNat b.toNat, 0)

theorem ancN_small {xs : List DVersion} {p : Nat} (hh : HistTo xs xs.length) (hn : xs.length ≤ 32) (h0 : 0 < p) (h1 : p ≤ xs.length) : (ancN xs p).length ≤ 32 := by
  have h4 := (parN_lt hh h0 h1).1
  have h5 := restN_len xs (parN xs p)
  simp only [ancN]
  omega

end Go.Proofs.Ytnekigpeknenjaa
