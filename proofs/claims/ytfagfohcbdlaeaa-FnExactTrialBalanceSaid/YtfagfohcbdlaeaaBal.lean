/- TrialBalance and its reference. -/
import Derived.Test.YtfagfohcbdlaeaaSorted
import Derived.Test.YtfagfohcbdlaeaaPut
import Derived.Test.YtfagfohcbdlaeaaNames
import Derived.Test.YtfagfohcbdlaeaaVEntry
import Derived.Test.YtfagfohcbdlaeaaRetSI
namespace Go.Proofs.Ytfagfohcbdlaeaa
open Go.RowKit
set_option linter.unusedVariables false
def balN (xs : List DEntry) (k : Nat) : List Str := match xs[k]? with | some x => [x.fDebit.data.toList, x.fCredit.data.toList] | none => []
theorem balN_at {xs : List DEntry} {k : Nat} (h : k < xs.length) : balN xs k = [xs[k].fDebit.data.toList, xs[k].fCredit.data.toList] := by simp only [balN, List.getElem?_eq_getElem h]
theorem balN_len (xs : List DEntry) (k : Nat) : (balN xs k).length ≤ 2 := by
  unfold balN
  split <;> simp

def changeE (x : DEntry) (name : ByteArray) : Int := if (x.fDebit.toList == name.toList) = true then x.fAmount else if (x.fCredit.toList == name.toList) = true then -x.fAmount else 0
/-- what the first k entries make of an account -/
def balTo (xs : List DEntry) (name : ByteArray) : Nat → Int
  | 0 => 0
  | k + 1 => balTo xs name k + (match xs[k]? with | some x => changeE x name | none => 0)
theorem balTo_succ {xs : List DEntry} {name : ByteArray} {k : Nat} (h : k < xs.length) : balTo xs name (k + 1) = balTo xs name k + changeE xs[k] name := by simp only [balTo, List.getElem?_eq_getElem h]
theorem entry_in {x : DEntry} (h : entryD x = true) : x.fDay ≤ 100000 ∧ nameB x.fDebit = true ∧ nameB x.fCredit = true ∧ 1 ≤ x.fAmount ∧ x.fAmount ≤ 10000000 := by
  simp only [entryD, entryB, Bool.and_eq_true] at h
  have h1 := inB_iff.1 h.1
  have h2 := inB_iff.1 h.2.2.2.2
  exact ⟨h1.2, h.2.1, h.2.2.1, h2.1, h2.2⟩
theorem change_bd {x : DEntry} (name : ByteArray) (h : entryD x = true) : -10000000 ≤ changeE x name ∧ changeE x name ≤ 10000000 := by
  have := entry_in h
  unfold changeE
  split
  · omega
  · split <;> omega
theorem balTo_bd {xs : List DEntry} (name : ByteArray) (h : EntrysTo xs xs.length) : ∀ k, k ≤ xs.length → -10000000 * (k : Int) ≤ balTo xs name k ∧ balTo xs name k ≤ 10000000 * (k : Int)
  | 0, _ => by simp only [balTo]; omega
  | k + 1, hk => by
    have ih := balTo_bd name h k (by omega)
    have hc := change_bd (x := xs[k]) name (h k (by omega) (by omega)).1
    rw [balTo_succ (by omega)]
    omega
/-- all accounts -/
def accN (xs : List DEntry) : List Str := setOf (namesN (balN xs) xs.length)
theorem accN_len (xs : List DEntry) : (accN xs).length ≤ 2 * xs.length := by
  have h2 := setOf_len (namesN (balN xs) xs.length)
  have h3 := namesN_len (balN_len xs) xs.length
  unfold accN
  omega
theorem accN_name {xs : List DEntry} (h : EntrysTo xs xs.length) {k : Nat} (hk : k < (accN xs).length) : nameB (tB (accN xs)[k]) = true := by
  have hm : (accN xs)[k] ∈ accN xs := List.getElem_mem hk
  unfold accN at hm
  rw [setOf_mem, namesN_mem] at hm
  obtain ⟨j, hj, hz⟩ := hm
  rw [balN_at hj] at hz
  have he := entry_in (h j hj hj).1
  simp only [List.mem_cons, List.not_mem_nil, or_false] at hz
  rcases hz with hz | hz
  · unfold accN; rw [hz, tB_data]; exact he.2.1
  · unfold accN; rw [hz, tB_data]; exact he.2.2.1
def sumsTo (xs : List DEntry) (k : Nat) : List Int := ((accN xs).take k).map fun z => balTo xs (tB z) xs.length
theorem sumsTo_succ {xs : List DEntry} {k : Nat} (h : k < (accN xs).length) : sumsTo xs (k + 1) = sumsTo xs k ++ [balTo xs (tB (accN xs)[k]) xs.length] := by
  unfold sumsTo
  rw [List.take_succ_eq_append_getElem h, List.map_append]
  rfl
theorem sumsTo_len {xs : List DEntry} {k : Nat} (h : k ≤ (accN xs).length) : (sumsTo xs k).length = k := by
  unfold sumsTo
  rw [List.length_map, List.length_take]
  omega
noncomputable def fBal (xs : List DEntry) : List Str × List Int × Int := if entrysB xs = false then ([], [], 1) else (accN xs, sumsTo xs (accN xs).length, 0)
theorem fBal_small (xs : List DEntry) : (fBal xs).1.length ≤ 64 ∧ (fBal xs).2.1.length ≤ 64 := by
  unfold fBal
  split
  · simp
  · rename_i h1
    have h := entrysB_iff.1 (by simpa using h1)
    have h2 := accN_len xs
    have h3 := sumsTo_len (Nat.le_refl (accN xs).length)
    simp only
    omega

theorem flip_eq {a b : List UInt8} {v : Bool} (h : (a == b) = v) : (b == a) = v := by
  subst h
  rw [Bool.eq_iff_iff, beq_iff_eq, beq_iff_eq]
  exact eq_comm

set_option maxHeartbeats 1600000 in
set_option maxRecDepth 100000 in
theorem entChange_ok (x : DEntry) (name : ByteArray) (w : World) (hb : -10000000 ≤ x.fAmount ∧ x.fAmount ≤ 10000000) :
    Calls Try.prog 158 #[.agg #[.int .i64 x.fDay, .string x.fDebit, .string x.fCredit, .int .i64 x.fAmount], .string name] w fun e w' => e = .returned (.int .i64 (changeE x name)) ∧ Below w.heap.size w w' := by
  obtain ⟨hb0, hb1⟩ := hb
  cases d1 : (x.fDebit.toList == name.toList)
  · cases d2 : (x.fCredit.toList == name.toList)
    · have HR := hid (show changeE x name = 0 by unfold changeE; rw [if_neg (by rw [d1]; exact fun h => by cases h), if_neg (by rw [d2]; exact fun h => by cases h)])
      have f1 := flip_eq d1
      have f2 := flip_eq d2
      go_enter Try.func158, Try.ntmps158
      go_wp2_with fail
      go_ret
      exact ⟨ret_int HR.out.symm, below_alloc _ _⟩
    · have HR := hid (show changeE x name = -x.fAmount by unfold changeE; rw [if_neg (by rw [d1]; exact fun h => by cases h), if_pos d2])
      have f1 := flip_eq d1
      have f2 := flip_eq d2
      go_enter Try.func158, Try.ntmps158
      go_wp2_with fail
      go_ret
      exact ⟨ret_int HR.out.symm, below_alloc _ _⟩
  · have HR := hid (show changeE x name = x.fAmount by unfold changeE; rw [if_pos d1])
    have f1 := flip_eq d1
    go_enter Try.func158, Try.ntmps158
    go_wp2_with fail
    go_ret
    exact ⟨ret_int HR.out.symm, below_alloc _ _⟩

set_option maxHeartbeats 1600000 in
set_option maxRecDepth 100000 in
theorem l25Change_ok (x : DEntry) (name : ByteArray) (b o : Nat) (w : World) (hb : -10000000 ≤ x.fAmount ∧ x.fAmount ≤ 10000000) (k1 : w.cell? ⟨b, o + 1, none⟩ = some (.string x.fDebit)) (k2 : w.cell? ⟨b, o + 2, none⟩ = some (.string x.fCredit)) (k3 : w.cell? ⟨b, o + 3, none⟩ = some (.int .i64 x.fAmount)) :
    Calls Try.prog 156 #[.pointer (some ⟨b, o, none⟩), .string name] w fun e w' => e = .returned (.int .i64 (changeE x name)) ∧ w = w' := by
  obtain ⟨hb0, hb1⟩ := hb
  cases d1 : (x.fDebit.toList == name.toList)
  · cases d2 : (x.fCredit.toList == name.toList)
    · have HR := hid (show changeE x name = 0 by unfold changeE; rw [if_neg (by rw [d1]; exact fun h => by cases h), if_neg (by rw [d2]; exact fun h => by cases h)])
      go_enter Try.func156, Try.ntmps156
      go_wp2_with fail
      go_ret
      exact ⟨ret_int HR.out.symm, rfl⟩
    · have HR := hid (show changeE x name = -x.fAmount by unfold changeE; rw [if_neg (by rw [d1]; exact fun h => by cases h), if_pos d2])
      go_enter Try.func156, Try.ntmps156
      go_wp2_with fail
      go_ret
      exact ⟨ret_int HR.out.symm, rfl⟩
  · have HR := hid (show changeE x name = x.fAmount by unfold changeE; rw [if_pos d1])
    go_enter Try.func156, Try.ntmps156
    go_wp2_with fail
    go_ret
    exact ⟨ret_int HR.out.symm, rfl⟩

set_option maxHeartbeats 1600000 in
set_option maxRecDepth 100000 in
theorem accountOf_ok (A : Option Addr) (c : Nat) (xs : List DEntry) (name : ByteArray) (w : World) (hA : RowsAt w 4 A (xs.map DEntry.cells)) (hok : ∀ x ∈ xs, x.ok) (hn : xs.length ≤ 1048576) (hv : entrysB xs = true) (hnm : nameB name = true) :
    Calls Try.prog 117 #[.slice A xs.length c, .string name, .int .i64 100000] w fun e w' => e = .returned (.tuple #[.int .i64 (balTo xs name xs.length), .int .i64 0]) ∧ Below w.heap.size w w' := by
  have HA := hid hA
  have HK := hid hok
  clear hA hok
  have HV := hid hv
  have HNM := hid hnm
  have HH := hid (entrysB_iff.1 hv)
  have h32 := HH.out.2
  have hns : name.size ≤ maxLen := by have := name_size hnm; unfold maxLen; omega
  have hin : inB (100000 : Int) 0 100000 = true := by decide
  clear hv hnm
  go_enter Try.func117, Try.ntmps117
  go_wp2_with (first
    | (go_at_call 90; refine (IsName_ok _ _ hns).mono ?_; rintro e w' ⟨rfl, rfl⟩; rw [HNM.out])
    | (go_at_call 101; refine (isRentDay_ok _ _).mono ?_; rintro e w' ⟨rfl, rfl⟩)
    | (go_at_call 116; refine (ValidBook_ok A c xs _ HA.out HK.out hn).mono ?_; rintro e w1 ⟨rfl, hb⟩; rw [HV.out]; have B1 := hid hb; clear hb))
  go_loopw [8, 24] (fun h m wr => ∃ k : Nat, k ≤ xs.length ∧ m = .int .i64 k ∧ h = .int .i64 (balTo xs name k) ∧ Below w.heap.size w wr) (fun _ m _ => xs.length - (intOf m).toNat)
  case atStart => exact ⟨0, Nat.zero_le _, rfl, rfl, B1.out⟩
  case round =>
    obtain ⟨k, hk, rfl, rfl, hbel⟩ := hrel
    have HB := hid hbel
    clear hbel
    by_cases hkl : k < xs.length
    · have hne : xs.map DEntry.cells ≠ [] := by intro e; rw [List.map_eq_nil_iff] at e; rw [e] at hkl; exact absurd hkl (by simp)
      obtain ⟨b, o, rfl, hlt, hc⟩ := (HA.out.below HB.out) hne
      have HC := hid hc
      have hc0 : wr.cell? ⟨b, o + k * 4, none⟩ = some (.int .i64 xs[k].fDay) := HC.out k _ (by rw [List.getElem?_map, List.getElem?_eq_getElem hkl]; rfl) 0 _ rfl
      have hc1 : wr.cell? ⟨b, o + k * 4 + 1, none⟩ = some (.string xs[k].fDebit) := HC.out k _ (by rw [List.getElem?_map, List.getElem?_eq_getElem hkl]; rfl) 1 _ rfl
      have hc2 : wr.cell? ⟨b, o + k * 4 + 2, none⟩ = some (.string xs[k].fCredit) := HC.out k _ (by rw [List.getElem?_map, List.getElem?_eq_getElem hkl]; rfl) 2 _ rfl
      have hc3 : wr.cell? ⟨b, o + k * 4 + 3, none⟩ = some (.int .i64 xs[k].fAmount) := HC.out k _ (by rw [List.getElem?_map, List.getElem?_eq_getElem hkl]; rfl) 3 _ rfl
      have q0 : (0 : Int) ≤ (k : Int) := by omega
      have q1 : (k : Int) < xs.length := by omega
      clear hc hne
      have NC := hid (HasC.new wr [.int .i64 xs[k].fDay, .string xs[k].fDebit, .string xs[k].fCredit, .int .i64 xs[k].fAmount] 141)
      have n0 := NC.out.2 0 _ rfl
      have n1 := NC.out.2 1 _ rfl
      have n2 := NC.out.2 2 _ rfl
      have n3 := NC.out.2 3 _ rfl
      have he := (HH.out.1 k hkl hkl).1
      have hi := entry_in he
      have hd1 := hi.1
      have b1 := balTo_bd name HH.out.1 k hk
      have b2 := change_bd name he
      have w1 : IntKind.i64.wrap (balTo xs name k + changeE xs[k] name) = balTo xs name k + changeE xs[k] name := IntWalk.i64_in _ (by omega)
      have HE := hid (balTo_succ (name := name) hkl)
      have B0 := hid (HB.out.alloc HB.out.size (.cells #[.int .i64 xs[k].fDay, .string xs[k].fDebit, .string xs[k].fCredit, .int .i64 xs[k].fAmount] 141))
      have hbd : -10000000 ≤ xs[k].fAmount ∧ xs[k].fAmount ≤ 10000000 := by omega
      have HBD := hid hbd
      clear he hi hbd
      go_wp2_with (go_at_call 158; refine (entChange_ok xs[k] name _ HBD.out).mono ?_; rintro e w5 ⟨rfl, hb5⟩; have B5 := hid (below_trans B0.out hb5); clear hb5)
      go_roundw
      case rel => exact ⟨k + 1, by omega, by go_num, by rw [HE.out], B5.out⟩
      case measure => simp [intOf]; omega
    · have hk2 : k = xs.length := by omega
      subst hk2
      go_wp2_with fail
      go_ret2
      exact ⟨rfl, HB.out⟩

set_option maxHeartbeats 1600000 in
set_option maxRecDepth 100000 in
theorem l25Balance_ok (A : Option Addr) (c : Nat) (xs : List DEntry) (name : ByteArray) (w : World) (hA : RowsAt w 4 A (xs.map DEntry.cells)) (hh : EntrysTo xs xs.length) (h32 : xs.length ≤ 32) :
    Calls Try.prog 114 #[.slice A xs.length c, .string name, .int .i64 100000] w fun e w' => e = .returned (.int .i64 (balTo xs name xs.length)) ∧ Below w.heap.size w w' := by
  have HA := hid hA
  have HH := hid hh
  clear hA hh
  go_enter Try.func114, Try.ntmps114
  go_wp2_with fail
  go_loopw [7, 8] (fun h m wr => ∃ k : Nat, k ≤ xs.length ∧ m = .int .i64 k ∧ h = .int .i64 (balTo xs name k) ∧ Below w.heap.size w wr) (fun _ m _ => xs.length - (intOf m).toNat)
  case atStart => exact ⟨0, Nat.zero_le _, rfl, rfl, Below.refl _ _⟩
  case round =>
    obtain ⟨k, hk, rfl, rfl, hbel⟩ := hrel
    have HB := hid hbel
    clear hbel
    by_cases hkl : k < xs.length
    · have hne : xs.map DEntry.cells ≠ [] := by intro e; rw [List.map_eq_nil_iff] at e; rw [e] at hkl; exact absurd hkl (by simp)
      obtain ⟨b, o, rfl, hlt, hc⟩ := (HA.out.below HB.out) hne
      have HC := hid hc
      have hc0 : wr.cell? ⟨b, o + k * 4, none⟩ = some (.int .i64 xs[k].fDay) := HC.out k _ (by rw [List.getElem?_map, List.getElem?_eq_getElem hkl]; rfl) 0 _ rfl
      have hc1 : wr.cell? ⟨b, o + k * 4 + 1, none⟩ = some (.string xs[k].fDebit) := HC.out k _ (by rw [List.getElem?_map, List.getElem?_eq_getElem hkl]; rfl) 1 _ rfl
      have hc2 : wr.cell? ⟨b, o + k * 4 + 2, none⟩ = some (.string xs[k].fCredit) := HC.out k _ (by rw [List.getElem?_map, List.getElem?_eq_getElem hkl]; rfl) 2 _ rfl
      have hc3 : wr.cell? ⟨b, o + k * 4 + 3, none⟩ = some (.int .i64 xs[k].fAmount) := HC.out k _ (by rw [List.getElem?_map, List.getElem?_eq_getElem hkl]; rfl) 3 _ rfl
      have q0 : (0 : Int) ≤ (k : Int) := by omega
      have q1 : (k : Int) < xs.length := by omega
      clear hc hne
      have he := (HH.out k hkl hkl).1
      have hi := entry_in he
      have hd1 := hi.1
      have b1 := balTo_bd name HH.out k hk
      have b2 := change_bd name he
      have w1 : IntKind.i64.wrap (balTo xs name k + changeE xs[k] name) = balTo xs name k + changeE xs[k] name := IntWalk.i64_in _ (by omega)
      have HE := hid (balTo_succ (name := name) hkl)
      have hbd : -10000000 ≤ xs[k].fAmount ∧ xs[k].fAmount ≤ 10000000 := by omega
      have HBD := hid hbd
      have KC := hid (And.intro hc1 (And.intro hc2 hc3))
      clear he hi hbd
      go_wp2_with (go_at_call 156; refine (l25Change_ok xs[k] name _ _ _ HBD.out KC.out.1 KC.out.2.1 KC.out.2.2).mono ?_; rintro e w' ⟨rfl, rfl⟩)
      go_roundw
      case rel => exact ⟨k + 1, by omega, by go_num, by rw [HE.out], HB.out⟩
      case measure => simp [intOf]; omega
    · have hk2 : k = xs.length := by omega
      subst hk2
      go_wp2_with fail
      go_ret
      exact ⟨rfl, HB.out⟩

set_option maxHeartbeats 1600000 in
set_option maxRecDepth 100000 in
theorem l25Names_ok (A : Option Addr) (c : Nat) (xs : List DEntry) (w : World) (hA : RowsAt w 4 A (xs.map DEntry.cells)) (hn : xs.length ≤ 64) :
    Calls Try.prog 113 #[.slice A xs.length c] w fun e w' => (∃ g c', e = .returned (.slice (some ⟨g, 0, none⟩) (accN xs).length c') ∧ w'.ownsRow w.heap.size 9 1 (.slice (some ⟨g, 0, none⟩) (accN xs).length c') (accN xs).length ((accN xs).map vS)) ∧ Below w.heap.size w w' := by
  have HA := hid hA
  clear hA
  go_enter Try.func113, Try.ntmps113
  go_wp2_with fail
  go_loopw [3, 4] (fun v m wr => ∃ (k g cc : Nat), k ≤ xs.length ∧ m = .int .i64 k ∧ v = .slice (some ⟨g, 0, none⟩) (setOf (namesN (balN xs) k)).length cc ∧ wr.ownsRow w.heap.size 9 1 (.slice (some ⟨g, 0, none⟩) (setOf (namesN (balN xs) k)).length cc) (setOf (namesN (balN xs) k)).length ((setOf (namesN (balN xs) k)).map vS) ∧ Below w.heap.size w wr) (fun _ m _ => xs.length - (intOf m).toNat)
  case atStart => exact ⟨0, _, _, Nat.zero_le _, rfl, rfl, World.ownsRow_lit _ _ 0 (Nat.le_refl _) (by unfold maxLen; omega) rfl, below_alloc _ _⟩
  case round =>
    obtain ⟨k, g, cc, hk, rfl, rfl, hown, hbel⟩ := hrel
    have HO := hid hown
    have HB := hid hbel
    have hnl : (namesN (balN xs) k).length ≤ 2 * k := namesN_len (balN_len xs) k
    have hsl := setOf_len (namesN (balN xs) k)
    clear hown hbel
    by_cases hkl : k < xs.length
    · have hne : xs.map DEntry.cells ≠ [] := by intro e; rw [List.map_eq_nil_iff] at e; rw [e] at hkl; exact absurd hkl (by simp)
      obtain ⟨b, o, rfl, hlt, hc⟩ := (HA.out.below HB.out) hne
      have HC := hid hc
      have hc1 : wr.cell? ⟨b, o + k * 4 + 1, none⟩ = some (.string xs[k].fDebit) := HC.out k _ (by rw [List.getElem?_map, List.getElem?_eq_getElem hkl]; rfl) 1 _ rfl
      have hc2 : wr.cell? ⟨b, o + k * 4 + 2, none⟩ = some (.string xs[k].fCredit) := HC.out k _ (by rw [List.getElem?_map, List.getElem?_eq_getElem hkl]; rfl) 2 _ rfl
      have q0 : (0 : Int) ≤ (k : Int) := by omega
      have q1 : (k : Int) < xs.length := by omega
      clear hc hne
      have HE := hid (show (putS (putS (setOf (namesN (balN xs) k)) xs[k].fDebit.data.toList) xs[k].fCredit.data.toList) = setOf (namesN (balN xs) (k + 1)) by
        rw [namesN, balN_at hkl]
        simp only [setOf, List.foldl_append, List.foldl_cons, List.foldl_nil])
      go_wp2_with (first | (go_at_call 75; refine (l19Put_ok g1 c1 (putS (setOf (namesN (balN xs) k)) xs[k].fDebit.data.toList) xs[k].fCredit w.heap.size _ O1.out U1.out (by omega) B1.out.size).mono ?_; rintro e v2 ⟨⟨g2, c2, rfl, ho⟩, hb⟩; have O2 := hid ho; have B2 := hid (below_up B1.out B1.out.size hb); have U2 := hid (putS_up xs[k].fCredit.data.toList U1.out); have L2 := putS_len (putS (setOf (namesN (balN xs) k)) xs[k].fDebit.data.toList) xs[k].fCredit.data.toList; clear ho hb) | (go_at_call 75; refine (l19Put_ok g cc (setOf (namesN (balN xs) k)) xs[k].fDebit w.heap.size _ HO.out (setOf_up (namesN (balN xs) k)) (by have := setOf_len (namesN (balN xs) k); omega) HB.out.size).mono ?_; rintro e v1 ⟨⟨g1, c1, rfl, ho⟩, hb⟩; have O1 := hid ho; have B1 := hid (below_up HB.out HB.out.size hb); have U1 := hid (putS_up xs[k].fDebit.data.toList (setOf_up (namesN (balN xs) k))); have L1 := putS_len (setOf (namesN (balN xs) k)) xs[k].fDebit.data.toList; have hc2 := (hb.cell (p := ⟨b, o + k * 4 + 2, none⟩) hlt).trans hc2; have hlt1 := Nat.lt_of_lt_of_le hlt hb.size; clear ho hb))
      go_roundw
      case rel => exact ⟨k + 1, g2, c2, by omega, by go_num, by rw [← HE.out], by rw [← HE.out]; exact O2.out, B2.out⟩
      case measure => simp [intOf]; omega
    · have hk2 : k = xs.length := by omega
      subst hk2
      go_wp2_with fail
      go_ret
      exact ⟨⟨g, cc, rfl, HO.out⟩, HB.out⟩

set_option maxHeartbeats 1600000 in
set_option maxRecDepth 100000 in
theorem implBal_ok (A : Option Addr) (c : Nat) (xs : List DEntry) (w : World) (hA : RowsAt w 4 A (xs.map DEntry.cells)) (hok : ∀ x ∈ xs, x.ok) (hn : xs.length ≤ 1048576) :
    Calls Try.prog 54 #[.slice A xs.length c] w (RetSI w (fBal xs)) := by
  have HA := hid hA
  have HK := hid hok
  clear hA hok
  cases c1 : entrysB xs
  · have HF := hid (show fBal xs = ([], [], 1) by unfold fBal; rw [if_pos c1])
    go_enter Try.func54, Try.ntmps54
    go_wp2_with fail
    refine (ValidBook_ok A c xs _ HA.out HK.out hn).mono ?_
    rintro e w1 ⟨rfl, hb⟩
    go_wp2_with fail
    go_ret3
    exact RetSI.nil HF.out hb
  have HF := hid (show fBal xs = (accN xs, sumsTo xs (accN xs).length, 0) by unfold fBal; rw [if_neg (by rw [c1]; exact fun h => by cases h)])
  have HV := hid c1
  have HH := hid (entrysB_iff.1 c1)
  have h32 := HH.out.2
  go_enter Try.func54, Try.ntmps54
  go_wp2_with fail
  refine (ValidBook_ok A c xs _ HA.out HK.out hn).mono ?_
  rintro e w1 ⟨rfl, hb⟩
  have B1 := hid hb
  have HA := hid (HA.out.below B1.out)
  clear hb
  go_wp2_with fail
  go_loopw [5, 19] (fun v m wr => ∃ (k g cc : Nat), k ≤ xs.length ∧ m = .int .i64 k ∧ v = .slice (some ⟨g, 0, none⟩) (namesN (balN xs) k).length cc ∧ wr.ownsRow w1.heap.size 9 1 (.slice (some ⟨g, 0, none⟩) (namesN (balN xs) k).length cc) (namesN (balN xs) k).length ((namesN (balN xs) k).map vS) ∧ Below w1.heap.size w1 wr) (fun _ m _ => xs.length - (intOf m).toNat)
  case atStart => exact ⟨0, _, _, Nat.zero_le _, rfl, rfl, World.ownsRow_lit _ _ 0 (Nat.le_refl _) (by unfold maxLen; omega) rfl, below_alloc _ _⟩
  case round =>
    obtain ⟨k, g, cc, hk, rfl, rfl, hown, hbel⟩ := hrel
    have HO := hid hown
    have HB := hid hbel
    have hnl : (namesN (balN xs) k).length ≤ 2 * k := namesN_len (balN_len xs) k
    clear hown hbel
    by_cases hkl : k < xs.length
    · have hne : xs.map DEntry.cells ≠ [] := by intro e; rw [List.map_eq_nil_iff] at e; rw [e] at hkl; exact absurd hkl (by simp)
      obtain ⟨b, o, rfl, hlt, hc⟩ := (HA.out.below HB.out) hne
      have HC := hid hc
      have hc0 : wr.cell? ⟨b, o + k * 4, none⟩ = some (.int .i64 xs[k].fDay) := HC.out k _ (by rw [List.getElem?_map, List.getElem?_eq_getElem hkl]; rfl) 0 _ rfl
      have hc1 : wr.cell? ⟨b, o + k * 4 + 1, none⟩ = some (.string xs[k].fDebit) := HC.out k _ (by rw [List.getElem?_map, List.getElem?_eq_getElem hkl]; rfl) 1 _ rfl
      have hc2 : wr.cell? ⟨b, o + k * 4 + 2, none⟩ = some (.string xs[k].fCredit) := HC.out k _ (by rw [List.getElem?_map, List.getElem?_eq_getElem hkl]; rfl) 2 _ rfl
      have hc3 : wr.cell? ⟨b, o + k * 4 + 3, none⟩ = some (.int .i64 xs[k].fAmount) := HC.out k _ (by rw [List.getElem?_map, List.getElem?_eq_getElem hkl]; rfl) 3 _ rfl
      have q0 : (0 : Int) ≤ (k : Int) := by omega
      have q1 : (k : Int) < xs.length := by omega
      clear hc hne
      have NC := hid (HasC.new wr [.int .i64 xs[k].fDay, .string xs[k].fDebit, .string xs[k].fCredit, .int .i64 xs[k].fAmount] 141)
      have n1 := NC.out.2 1 _ rfl
      have n2 := NC.out.2 2 _ rfl
      have O5 := hid (HO.out.alloc (.cells #[.int .i64 xs[k].fDay, .string xs[k].fDebit, .string xs[k].fCredit, .int .i64 xs[k].fAmount] 141))
      have B5 := hid (HB.out.alloc HB.out.size (.cells #[.int .i64 xs[k].fDay, .string xs[k].fDebit, .string xs[k].fCredit, .int .i64 xs[k].fAmount] 141))
      have HE := hid (show (namesN (balN xs) k).map vS ++ [.string xs[k].fDebit, .string xs[k].fCredit] = (namesN (balN xs) (k + 1)).map vS by
        rw [namesN, List.map_append, balN_at hkl]
        simp only [List.map_cons, List.map_nil, vS_data])
      have LE := hid (show (namesN (balN xs) k).length + 2 = (namesN (balN xs) (k + 1)).length by rw [namesN, List.length_append, balN_at hkl]; rfl)
      go_wp2_with (at_builtin; refine wpList_app (w0 := w1) rfl (.tmp 23) (.tmp 28) 24 rfl w1.heap.size 9 (.string ⟨#[]⟩) 1 16 Try.underlying24 infoStr rfl (by decide) _ _ _ rfl O5.out #[.string xs[k].fDebit, .string xs[k].fCredit] 2 2 (by simp [Act.eval]) rfl (by simp [Value.oneCell']) (by omega) B5.out.size B5.out ?_; intro v1 w6 hown1 hbel1 hz1 _; obtain ⟨g6, c6, rfl, hf6⟩ := own_form hown1 (by omega))
      go_roundw
      case rel => exact ⟨k + 1, g6, c6, by omega, by go_num, by rw [← LE.out], by rw [← HE.out, ← LE.out]; exact hown1, hbel1⟩
      case measure => simp [intOf]; omega
    · have hk2 : k = xs.length := by omega
      subst hk2
      go_wp2_with (go_at_call 78; refine (sortedSet_ok g cc _ w1 _ HO.out HB.out (by omega)).mono ?_; rintro e w7 ⟨rfl, ho7, hb7⟩; have SO := hid ho7; have SN := hid (strs_own ho7); have SB := hid hb7; clear ho7 hb7)
      have LA := accN_len xs
      have e9 := hid (show setOf (namesN (balN xs) xs.length) = accN xs from rfl)
      rw [e9.out] at SO SN
      rw [e9.out]
      clear HO HB hnl
      rename World => w7
      go_loopw [8, 36] (fun v m wr => ∃ (k : Nat) (Ac : Option Addr) (cc : Nat), k ≤ (accN xs).length ∧ m = .int .i64 k ∧ v = .slice Ac (sumsTo xs k).length cc ∧ wr.ownsRow w7.heap.size 2 1 (.slice Ac (sumsTo xs k).length cc) (sumsTo xs k).length ((sumsTo xs k).map (Value.int .i64)) ∧ Below w7.heap.size w7 wr) (fun _ m _ => (accN xs).length - (intOf m).toNat)
      case atStart => exact ⟨0, _, _, Nat.zero_le _, rfl, rfl, World.ownsRow_lit _ _ 0 (Nat.le_refl _) (by unfold maxLen; omega) rfl, below_alloc _ _⟩
      case round =>
        obtain ⟨k, Ac, cc, hk, rfl, rfl, hown, hbel⟩ := hrel
        have HO := hid hown
        have HB := hid hbel
        clear hown hbel
        have hsl : (sumsTo xs k).length ≤ 64 := by rw [sumsTo_len hk]; omega
        by_cases hkl : k < (accN xs).length
        · obtain ⟨nb, no, hA1, nlt, nc⟩ := SN.out (by intro e; rw [e] at hkl; exact absurd hkl (by simp))
          injection hA1 with hA1
          injection hA1 with hA1 ho1
          subst hA1 ho1
          have z1 : wr.cell? ⟨g, k, none⟩ = some (.string (tB (accN xs)[k])) := by
            have h := (HB.out.cell (p := ⟨g, 0 + k, none⟩) nlt).trans (nc k _ (List.getElem?_eq_getElem hkl))
            rw [Nat.zero_add] at h
            exact h
          have q0 : (0 : Int) ≤ (k : Int) := by omega
          have q1 : (k : Int) < (accN xs).length := by omega
          have NM := hid (accN_name HH.out.1 hkl)
          have HE := hid (sumsTo_succ hkl)
          clear nc
          go_wp2_with (first
            | (at_builtin; refine wpList_app (w0 := w7) rfl (.tmp 46) (.tmp 48) 46 rfl w7.heap.size 2 (.int .i64 0) 1 8 Try.underlying46 infoI rfl (by decide) _ _ _ rfl O5.out #[.int .i64 (balTo xs (tB (accN xs)[k]) xs.length)] 1 1 rfl rfl (by simp [Value.oneCell']) (by omega) B5.out.size B5.out ?_; intro v1 w6 hown1 hbel1 hz1 _; obtain ⟨g6, c6, rfl, hf6⟩ := own_form hown1 (by omega))
            | (go_at_call 117; refine (accountOf_ok _ _ xs (tB (accN xs)[k]) _ (HA.out.below (below_trans SB.out HB.out)) HK.out hn HV.out NM.out).mono ?_; rintro e w5 ⟨rfl, hb5⟩; have O5 := hid (own_below HO.out hb5); have B5 := hid (below_trans HB.out hb5); clear hb5))
          go_roundw
          case rel => exact ⟨k + 1, some ⟨g6, 0, none⟩, c6, by omega, by go_num, by rw [HE.out, List.length_append]; rfl, by rw [HE.out, List.length_append, List.map_append]; exact hown1, hbel1⟩
          case measure => simp [intOf]; omega
        · have hk2 : k = (accN xs).length := by omega
          subst hk2
          go_wp2_with fail
          go_ret3
          exact RetSI.own HF.out (own_mono SO.out (by have := B1.out.size; omega)) (own_lt SO.out) HO.out (own_below SO.out HB.out) (by have := B1.out.size; have := SB.out.size; omega) HB.out.size (B1.out.trans ((SB.out.trans (HB.out.mono SB.out.size)).mono B1.out.size)) B1.out.size

set_option maxHeartbeats 1600000 in
set_option maxRecDepth 100000 in
theorem specBal_ok (A : Option Addr) (c : Nat) (xs : List DEntry) (w : World) (hA : RowsAt w 4 A (xs.map DEntry.cells)) (hok : ∀ x ∈ xs, x.ok) (hn : xs.length ≤ 1048576) :
    Calls Try.prog 52 #[.slice A xs.length c] w (RetSI w (fBal xs)) := by
  have HA := hid hA
  have HK := hid hok
  clear hA hok
  cases c1 : entrysB xs
  · have HF := hid (show fBal xs = ([], [], 1) by unfold fBal; rw [if_pos c1])
    go_enter Try.func52, Try.ntmps52
    go_wp2_with fail
    refine (l25Ok_ok A c xs _ HA.out HK.out hn).mono ?_
    rintro e w1 ⟨rfl, hb⟩
    go_wp2_with fail
    go_ret3
    exact RetSI.nil HF.out hb
  have HF := hid (show fBal xs = (accN xs, sumsTo xs (accN xs).length, 0) by unfold fBal; rw [if_neg (by rw [c1]; exact fun h => by cases h)])
  have HV := hid c1
  have HH := hid (entrysB_iff.1 c1)
  have h32 := HH.out.2
  go_enter Try.func52, Try.ntmps52
  go_wp2_with fail
  refine (l25Ok_ok A c xs _ HA.out HK.out hn).mono ?_
  rintro e w1 ⟨rfl, hb⟩
  have B1 := hid hb
  have HA := hid (HA.out.below B1.out)
  clear hb
  go_wp2_with (go_at_call 113; refine (l25Names_ok _ _ xs _ HA.out (by omega)).mono ?_; rintro e w7 ⟨⟨g7, c7, rfl, ho7⟩, hb7⟩; have SO := hid ho7; have SN := hid (strs_own ho7); have SB := hid hb7; clear ho7 hb7)
  have LA := accN_len xs
  rename World => w7
  go_loopw [6, 7] (fun v m wr => ∃ (k : Nat) (Ac : Option Addr) (cc : Nat), k ≤ (accN xs).length ∧ m = .int .i64 k ∧ v = .slice Ac (sumsTo xs k).length cc ∧ wr.ownsRow w7.heap.size 2 1 (.slice Ac (sumsTo xs k).length cc) (sumsTo xs k).length ((sumsTo xs k).map (Value.int .i64)) ∧ Below w7.heap.size w7 wr) (fun _ m _ => (accN xs).length - (intOf m).toNat)
  case atStart => exact ⟨0, _, _, Nat.zero_le _, rfl, rfl, World.ownsRow_lit _ _ 0 (Nat.le_refl _) (by unfold maxLen; omega) rfl, below_alloc _ _⟩
  case round =>
    obtain ⟨k, Ac, cc, hk, rfl, rfl, hown, hbel⟩ := hrel
    have HO := hid hown
    have HB := hid hbel
    clear hown hbel
    have hsl : (sumsTo xs k).length ≤ 64 := by rw [sumsTo_len hk]; omega
    by_cases hkl : k < (accN xs).length
    · obtain ⟨nb, no, hA1, nlt, nc⟩ := SN.out (by intro e; rw [e] at hkl; exact absurd hkl (by simp))
      injection hA1 with hA1
      injection hA1 with hA1 ho1
      subst hA1 ho1
      have z1 : wr.cell? ⟨g7, k, none⟩ = some (.string (tB (accN xs)[k])) := by
        have h := (HB.out.cell (p := ⟨g7, 0 + k, none⟩) nlt).trans (nc k _ (List.getElem?_eq_getElem hkl))
        rw [Nat.zero_add] at h
        exact h
      have q0 : (0 : Int) ≤ (k : Int) := by omega
      have q1 : (k : Int) < (accN xs).length := by omega
      have NM := hid (accN_name HH.out.1 hkl)
      have HE := hid (sumsTo_succ hkl)
      clear nc
      go_wp2_with (first
        | (at_builtin; refine wpList_app (w0 := w7) rfl (.tmp 20) (.tmp 27) 46 rfl w7.heap.size 2 (.int .i64 0) 1 8 Try.underlying46 infoI rfl (by decide) _ _ _ rfl O5.out #[.int .i64 (balTo xs (tB (accN xs)[k]) xs.length)] 1 1 rfl rfl (by simp [Value.oneCell']) (by omega) B5.out.size B5.out ?_; intro v1 w6 hown1 hbel1 hz1 _; obtain ⟨g6, c6, rfl, hf6⟩ := own_form hown1 (by omega))
        | (go_at_call 114; refine (l25Balance_ok _ _ xs (tB (accN xs)[k]) _ (HA.out.below (below_trans SB.out HB.out)) HH.out.1 HH.out.2).mono ?_; rintro e w5 ⟨rfl, hb5⟩; have O5 := hid (own_below HO.out hb5); have B5 := hid (below_trans HB.out hb5); clear hb5))
      go_roundw
      case rel => exact ⟨k + 1, some ⟨g6, 0, none⟩, c6, by omega, by go_num, by rw [HE.out, List.length_append]; rfl, by rw [HE.out, List.length_append, List.map_append]; exact hown1, hbel1⟩
      case measure => simp [intOf]; omega
    · have hk2 : k = (accN xs).length := by omega
      subst hk2
      go_wp2_with fail
      go_ret3
      exact RetSI.own HF.out (own_mono SO.out (by have := B1.out.size; omega)) (own_lt SO.out) HO.out (own_below SO.out HB.out) (by have := B1.out.size; have := SB.out.size; omega) HB.out.size (B1.out.trans ((SB.out.trans (HB.out.mono SB.out.size)).mono B1.out.size)) B1.out.size

end Go.Proofs.Ytfagfohcbdlaeaa
