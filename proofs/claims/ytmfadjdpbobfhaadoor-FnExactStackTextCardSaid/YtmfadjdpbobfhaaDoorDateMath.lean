/- Years, months, dates. No program in sight. -/
import Derived.Test.YtmfadjdpbobfhaaDoorListMath
namespace Go.Proofs.YtmfadjdpbobfhaaDoor
open Go.RowKit
set_option linter.unusedVariables false

def lenM (y m : Int) : Int := if m = 2 then (if y % 4 = 0 then 29 else 28) else if m = 4 ∨ m = 6 ∨ m = 9 ∨ m = 11 then 30 else 31
def yearL (y : Int) : Int := if y % 4 = 0 then 366 else 365
def Yb (y : Int) : Int := 365 * (y - 2000) + (y - 1997) / 4
def mtab (m : Int) : Int := if m = 1 then 0 else if m = 2 then 31 else if m = 3 then 59 else if m = 4 then 90 else if m = 5 then 120 else if m = 6 then 151 else if m = 7 then 181 else if m = 8 then 212 else if m = 9 then 243 else if m = 10 then 273 else if m = 11 then 304 else if m = 12 then 334 else 365
def Mb (y m : Int) : Int := (if 2 < m ∧ y % 4 = 0 then 1 else 0) + mtab m
theorem twelve {m : Int} (h1 : 1 ≤ m) (h2 : m ≤ 12) : m = 1 ∨ m = 2 ∨ m = 3 ∨ m = 4 ∨ m = 5 ∨ m = 6 ∨ m = 7 ∨ m = 8 ∨ m = 9 ∨ m = 10 ∨ m = 11 ∨ m = 12 := by omega
theorem Yb_low {y : Int} (h : 2000 ≤ y) : 365 * (y - 2000) ≤ Yb y := by unfold Yb; omega
theorem Mb_one (y : Int) : Mb y 1 = 0 := by simp [Mb, mtab]
theorem Mb_succ {y m : Int} (h1 : 1 ≤ m) (h2 : m ≤ 12) : Mb y (m + 1) = Mb y m + lenM y m := by
  by_cases h : y % 4 = 0
  · rcases twelve h1 h2 with rfl | rfl | rfl | rfl | rfl | rfl | rfl | rfl | rfl | rfl | rfl | rfl <;> simp [Mb, mtab, lenM, h]
  · rcases twelve h1 h2 with rfl | rfl | rfl | rfl | rfl | rfl | rfl | rfl | rfl | rfl | rfl | rfl <;> simp [Mb, mtab, lenM, h]
theorem Mb_end (y : Int) : Mb y 12 + lenM y 12 = yearL y := by
  by_cases h : y % 4 = 0 <;> simp [Mb, mtab, lenM, yearL, h]
theorem Yb_succ (y : Int) : Yb (y + 1) = Yb y + yearL y := by
  unfold Yb yearL
  split <;> omega
theorem Yb_mono : ∀ (n : Nat) (y : Int), Yb y ≤ Yb (y + n)
  | 0, y => by simp
  | n + 1, y => by
    have h1 := Yb_mono n y
    have h2 := Yb_succ (y + n)
    have h3 : 365 ≤ yearL (y + n) := by unfold yearL; split <;> omega
    have e : y + ((n + 1 : Nat) : Int) = y + n + 1 := by omega
    rw [e, h2]
    omega
theorem lenM_pos {y m : Int} : 28 ≤ lenM y m ∧ lenM y m ≤ 31 := by
  unfold lenM
  split
  · split <;> omega
  · split <;> omega
theorem Mb_in {y m : Int} (h1 : 1 ≤ m) (h2 : m ≤ 12) : 0 ≤ Mb y m ∧ Mb y m + lenM y m ≤ yearL y := by
  by_cases h : y % 4 = 0
  · rcases twelve h1 h2 with rfl | rfl | rfl | rfl | rfl | rfl | rfl | rfl | rfl | rfl | rfl | rfl <;> simp [Mb, mtab, lenM, yearL, h]
  · rcases twelve h1 h2 with rfl | rfl | rfl | rfl | rfl | rfl | rfl | rfl | rfl | rfl | rfl | rfl <;> simp [Mb, mtab, lenM, yearL, h]
theorem Mb_lt {y m m' : Int} (h1 : 1 ≤ m) (h : m < m') (h2 : m' ≤ 12) : Mb y m + lenM y m ≤ Mb y m' := by
  obtain ⟨n, rfl⟩ : ∃ n : Nat, m' = m + 1 + n := ⟨(m' - m - 1).toNat, by omega⟩
  clear h
  induction n with
  | zero => rw [← Mb_succ h1 (by omega)]; simp
  | succ n ih =>
    have h3 := ih (by omega)
    have e : m + 1 + ((n + 1 : Nat) : Int) = (m + 1 + n) + 1 := by omega
    rw [e, Mb_succ (by omega) (by omega)]
    have := (lenM_pos (y := y) (m := m + 1 + n)).1
    omega
/-- day d0 is the date (from 0) d of month m of year y -/
def IsDate (d0 y m d : Int) : Prop := 2000 ≤ y ∧ 1 ≤ m ∧ m ≤ 12 ∧ 0 ≤ d ∧ d < lenM y m ∧ d0 = Yb y + Mb y m + d
theorem IsDate.year {d0 y m d : Int} (h : IsDate d0 y m d) : Yb y ≤ d0 ∧ d0 < Yb (y + 1) := by
  obtain ⟨h1, h2, h3, h4, h5, h6⟩ := h
  have := Mb_in (y := y) h2 h3
  rw [Yb_succ]
  omega
theorem IsDate.one {d0 y m d y' m' d' : Int} (h : IsDate d0 y m d) (h' : IsDate d0 y' m' d') : y = y' ∧ m = m' ∧ d = d' := by
  have hy : y = y' := by
    have a := h.year
    have b := h'.year
    rcases Int.lt_trichotomy y y' with c | c | c
    · have := Yb_mono (y' - (y + 1)).toNat (y + 1)
      rw [show y + 1 + ((y' - (y + 1)).toNat : Int) = y' by omega] at this
      omega
    · exact c
    · have := Yb_mono (y - (y' + 1)).toNat (y' + 1)
      rw [show y' + 1 + ((y - (y' + 1)).toNat : Int) = y by omega] at this
      omega
  subst hy
  obtain ⟨_, a2, a3, a4, a5, a6⟩ := h
  obtain ⟨_, b2, b3, b4, b5, b6⟩ := h'
  have hm : m = m' := by
    rcases Int.lt_trichotomy m m' with c | c | c
    · have := Mb_lt (y := y) a2 c b3
      omega
    · exact c
    · have := Mb_lt (y := y) b2 c a3
      omega
  subst hm
  exact ⟨rfl, rfl, by omega⟩
def twoT (n : Int) : ByteArray := if n < 10 then ⟨#[48]⟩ ++ dec n else dec n
def dateTT (y m d : Int) : ByteArray := dec y ++ ⟨#[45]⟩ ++ twoT m ++ ⟨#[45]⟩ ++ twoT (d + 1)
noncomputable def dateT (d0 : Int) : ByteArray :=
  @dite _ (∃ t, ∃ y m d, IsDate d0 y m d ∧ t = dateTT y m d) (Classical.propDecidable _) (fun h => h.choose) (fun _ => ⟨#[]⟩)
theorem dateT_eq {d0 y m d : Int} (h : IsDate d0 y m d) : dateT d0 = dateTT y m d := by
  unfold dateT
  have hx : ∃ t, ∃ y m d, IsDate d0 y m d ∧ t = dateTT y m d := ⟨_, y, m, d, h, rfl⟩
  rw [dif_pos hx]
  obtain ⟨y', m', d', h', e⟩ := hx.choose_spec
  obtain ⟨rfl, rfl, rfl⟩ := h.one h'
  exact e
theorem small_size : ∀ n : Nat, n < 100 → (dec (n : Int)).size = if n < 10 then 1 else 2 := by decide +kernel
theorem dec_two {n : Int} (h0 : 0 ≤ n) (h1 : n < 100) : (dec n).size = if n < 10 then 1 else 2 := by
  obtain ⟨k, rfl⟩ := Int.eq_ofNat_of_zero_le h0
  have := small_size k (by omega)
  rw [this]
  split <;> split <;> omega
end Go.Proofs.YtmfadjdpbobfhaaDoor
