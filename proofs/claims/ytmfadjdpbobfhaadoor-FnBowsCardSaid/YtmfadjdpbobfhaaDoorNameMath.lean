/- Plain facts about names and decimal numerals: no program in sight. -/
import Derived.Lib.ItoaNum
import Derived.Lib.ItoaMem
import Derived.Laws.Strings
import Derived.Calls
namespace Go.Proofs.YtmfadjdpbobfhaaDoor

/-- a small letter, a digit -/
def lowB (c : Int) : Bool := decide (97 ≤ c) && decide (c ≤ 122)
def digB (c : Int) : Bool := decide (48 ≤ c) && decide (c ≤ 57)
/-- low ≤ n ≤ high -/
def inB (n low high : Int) : Bool := decide (low ≤ n) && decide (n ≤ high)

theorem lowB_iff {c : Int} : lowB c = true ↔ 97 ≤ c ∧ c ≤ 122 := by simp [lowB]
theorem digB_iff {c : Int} : digB c = true ↔ 48 ≤ c ∧ c ≤ 57 := by simp [digB]
theorem inB_iff {n l h : Int} : inB n l h = true ↔ l ≤ n ∧ n ≤ h := by simp [inB]

/-- the first k bytes are letters or digits -/
def AllTo (s : ByteArray) (k : Nat) : Prop := ∀ j (h : j < s.size), j < k → lowB s[j].toNat = true ∨ digB s[j].toNat = true

/-- a name: a letter ahead, letters and digits, 1 to 10 bytes -/
def nameP (s : ByteArray) : Prop := ∃ h : 0 < s.size, s.size ≤ 10 ∧ lowB s[0].toNat = true ∧ AllTo s s.size
/-- the same as a Bool -/
def nameB (s : ByteArray) : Bool :=
  match s.data.toList with
  | [] => false
  | c :: r => decide (r.length ≤ 9) && lowB c.toNat && r.all fun c => lowB c.toNat || digB c.toNat

theorem nameB_iff {s : ByteArray} : nameB s = true ↔ nameP s := by
  obtain ⟨⟨l⟩⟩ := s
  cases l with
  | nil =>
    refine ⟨fun h => by simp [nameB] at h, fun ⟨h, _⟩ => ?_⟩
    exact absurd h (by simp [ByteArray.size])
  | cons c r =>
    simp only [nameB, Bool.and_eq_true, decide_eq_true_eq, List.all_eq_true, Bool.or_eq_true]
    constructor
    · rintro ⟨⟨h1, h2⟩, h3⟩
      refine ⟨by simp [ByteArray.size], by simp [ByteArray.size]; omega, h2, ?_⟩
      intro j hj _
      cases j with
      | zero => exact .inl h2
      | succ j => exact h3 _ (List.getElem_mem (l := r) (by simpa [ByteArray.size] using hj))
    · rintro ⟨h0, h1, h2, h3⟩
      refine ⟨⟨by simpa [ByteArray.size] using h1, h2⟩, fun x hx => ?_⟩
      obtain ⟨i, hi, rfl⟩ := List.getElem_of_mem hx
      exact h3 (i + 1) (by simpa [ByteArray.size] using hi) (by simpa [ByteArray.size] using hi)
theorem nameB_true {s : ByteArray} (h : nameP s) : nameB s = true := nameB_iff.2 h
theorem nameB_false {s : ByteArray} (h : ¬ nameP s) : nameB s = false := by
  cases e : nameB s
  · rfl
  · exact absurd (nameB_iff.1 e) h

theorem AllTo.zero (s : ByteArray) : AllTo s 0 := fun _ _ h => absurd h (by omega)
theorem AllTo.succ {s : ByteArray} {k : Nat} (h : AllTo s k) (hk : k < s.size) (hc : lowB s[k].toNat = true ∨ digB s[k].toNat = true) : AllTo s (k + 1) := by
  intro j hj hjk
  rcases Nat.lt_or_ge j k with h1 | h1
  · exact h j hj h1
  · have : j = k := by omega
    subst this; exact hc

theorem toList_nil {s : ByteArray} (h : s.size = 0) : s.toList = [] := by
  have : s = ByteArray.empty := by
    obtain ⟨⟨l⟩⟩ := s
    cases l
    · rfl
    · simp [ByteArray.size] at h
  subst this
  rw [ByteArray.toList_eq]
  rfl
theorem toList_ne {s : ByteArray} (h : 0 < s.size) : ¬ s.toList = [] := by
  rw [ByteArray.toList_eq]
  obtain ⟨⟨l⟩⟩ := s
  cases l
  · simp [ByteArray.size] at h
  · simp
theorem isEmpty_ne {s : ByteArray} (h : 0 < s.size) : s.toList.isEmpty = false := by
  have := toList_ne h
  cases h2 : s.toList
  · exact absurd h2 this
  · rfl
theorem notname_empty {s : ByteArray} (h : s.size = 0) : nameB s = false := nameB_false fun ⟨h0, _⟩ => by omega
theorem notname_long {s : ByteArray} (h : 10 < s.size) : nameB s = false := nameB_false fun ⟨h0, h1, _⟩ => by omega
theorem notname_head {s : ByteArray} (h0 : 0 < s.size) (h : lowB s[0].toNat = false) : nameB s = false := nameB_false fun ⟨_, _, h2, _⟩ => by simp [h] at h2
theorem notname_at {s : ByteArray} {k : Nat} (hk : k < s.size) (h1 : lowB s[k].toNat = false) (h2 : digB s[k].toNat = false) : nameB s = false := nameB_false fun ⟨_, _, _, h4⟩ => by
  have := h4 k hk hk
  simp [h1, h2] at this
theorem name_of {s : ByteArray} (h0 : 0 < s.size) (h1 : s.size ≤ 10) (h2 : lowB s[0].toNat = true) (h3 : AllTo s s.size) : nameB s = true := nameB_true ⟨h0, h1, h2, h3⟩
theorem ret_bool {a b : Bool} (h : a = b) : Ending.returned (.bool a) = .returned (.bool b) := by rw [h]
theorem ret_int {k : IntKind} {a b : Int} (h : a = b) : Ending.returned (.int k a) = .returned (.int k b) := by rw [h]

end Go.Proofs.YtmfadjdpbobfhaaDoor
