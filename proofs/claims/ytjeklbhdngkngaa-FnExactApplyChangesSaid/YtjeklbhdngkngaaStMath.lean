/- States: the value of a name. -/
import Derived.Test.YtjeklbhdngkngaaStateV
import Derived.Test.YtjeklbhdngkngaaPut
import Derived.Test.YtjeklbhdngkngaaNames
import Derived.Test.YtjeklbhdngkngaaTSetting
namespace Go.Proofs.Ytjeklbhdngkngaa
open Go.RowKit
set_option linter.unusedVariables false
def stN (xs : List DSetting) (k : Nat) : List Str := match xs[k]? with | some x => [x.fName.data.toList] | none => []
theorem stN_at {xs : List DSetting} {k : Nat} (h : k < xs.length) : stN xs k = [xs[k].fName.data.toList] := by simp only [stN, List.getElem?_eq_getElem h]
theorem stN_len (xs : List DSetting) (k : Nat) : (stN xs k).length ≤ 1 := by
  unfold stN
  split <;> simp

def stn (x : DSetting) : Str := x.fName.data.toList
def noSet : DSetting := ⟨⟨#[]⟩, 0⟩
/-- the setting of a name; none: the empty one -/
def getN (xs : List DSetting) (z : Str) : DSetting := match xs.find? (fun x => decide (stn x = z)) with | some x => x | none => noSet
/-- the value of a name, or -1 -/
def valN (xs : List DSetting) (z : Str) : Int := match xs.find? (fun x => decide (stn x = z)) with | some x => x.fValue | none => -1
theorem st_find : ∀ {xs : List DSetting} {z : Str} {i : Nat} (hi : i < xs.length), stn xs[i] = z → (∀ j (h : j < xs.length), j < i → stn xs[j] ≠ z) → xs.find? (fun x => decide (stn x = z)) = some xs[i]
  | [], _, _, hi, _, _ => absurd hi (by simp)
  | x :: xs, z, 0, _, he, _ => List.find?_cons_of_pos (by simpa using he)
  | x :: xs, z, i + 1, hi, he, hp => by
    have h0 : ¬ stn x = z := hp 0 (by simp) (by omega)
    rw [List.find?_cons_of_neg (by simpa using h0)]
    exact st_find (xs := xs) (by simpa using hi) he (fun j h hj => hp (j + 1) (by simpa using h) (by omega))
theorem st_none {xs : List DSetting} {z : Str} (h : ∀ j (hj : j < xs.length), stn xs[j] ≠ z) : xs.find? (fun x => decide (stn x = z)) = none := by
  rw [List.find?_eq_none]
  intro x hx
  obtain ⟨j, hj, rfl⟩ := List.mem_iff_getElem.1 hx
  simpa using h j hj
theorem st_has {xs : List DSetting} {z : Str} : (∃ (i : Nat) (hi : i < xs.length), stn xs[i] = z ∧ xs.find? (fun x => decide (stn x = z)) = some xs[i]) ∨ (∀ j (hj : j < xs.length), stn xs[j] ≠ z) := by
  cases h : xs.find? (fun x => decide (stn x = z)) with
  | none => exact .inr fun j hj e => by have := List.find?_eq_none.1 h xs[j] (List.getElem_mem hj); simp [e] at this
  | some x =>
    have h1 := List.find?_some h
    obtain ⟨i, hi, e⟩ := List.mem_iff_getElem.1 (List.mem_of_find?_eq_some h)
    exact .inl ⟨i, hi, by rw [e]; simpa using h1, by rw [e]⟩
theorem valN_at {xs : List DSetting} {z : Str} {i : Nat} (hi : i < xs.length) (he : stn xs[i] = z) (hp : ∀ j (h : j < xs.length), j < i → stn xs[j] ≠ z) : valN xs z = xs[i].fValue := by rw [valN, st_find hi he hp]
theorem getN_at {xs : List DSetting} {z : Str} {i : Nat} (hi : i < xs.length) (he : stn xs[i] = z) (hp : ∀ j (h : j < xs.length), j < i → stn xs[j] ≠ z) : getN xs z = xs[i] := by rw [getN, st_find hi he hp]
theorem valN_none {xs : List DSetting} {z : Str} (h : ∀ j (hj : j < xs.length), stn xs[j] ≠ z) : valN xs z = -1 := by rw [valN, st_none h]
theorem getN_none {xs : List DSetting} {z : Str} (h : ∀ j (hj : j < xs.length), stn xs[j] ≠ z) : getN xs z = noSet := by rw [getN, st_none h]
theorem st_lt {xs : List DSetting} (h : StateTo xs xs.length) : ∀ (j : Nat) (hj : j < xs.length) (i : Nat) (hi : i < j), stn xs[i] < stn xs[j]
  | 0, _, _, hi => absurd hi (Nat.not_lt_zero _)
  | j + 1, hj, i, hi => by
    have h1 := (h (j + 1) hj hj).2 (by omega)
    rw [less_iff] at h1
    have h2 : stn xs[j] < stn xs[j + 1] := of_decide_eq_true h1
    rcases Nat.lt_or_ge i j with h3 | h3
    · exact List.lt_trans (st_lt h j (by omega) i h3) h2
    · have : i = j := by omega
      subst this
      exact h2
theorem set_in {x : DSetting} (h : setB x = true) : nameB x.fName = true ∧ 0 ≤ x.fValue ∧ x.fValue ≤ 1000 := by
  simp only [setB, Bool.and_eq_true] at h
  exact ⟨h.1, inB_iff.1 h.2⟩
/-- values of one name agree where the settings do -/
theorem get_val {xs ys : List DSetting} {z : Str} (hx : StateTo xs xs.length) (hy : StateTo ys ys.length) : getN xs z = getN ys z ↔ valN xs z = valN ys z := by
  unfold getN valN
  rcases st_has (xs := xs) (z := z) with ⟨i, hi, hz, e1⟩ | h1
  · rcases st_has (xs := ys) (z := z) with ⟨j, hj, hz2, e2⟩ | h2
    · rw [e1, e2]
      show xs[i] = ys[j] ↔ xs[i].fValue = ys[j].fValue
      constructor
      · intro e; rw [e]
      · intro e
        have hn : xs[i].fName = ys[j].fName := by
          have h3 : xs[i].fName.data.toList = ys[j].fName.data.toList := hz.trans hz2.symm
          rw [← tB_data xs[i].fName, h3, tB_data]
        cases hxi : xs[i]
        cases hyj : ys[j]
        rw [hxi, hyj] at hn e
        simp only at hn e
        rw [hn, e]
    · rw [e1, st_none h2]
      have h0 := set_in (hx i hi hi).1
      constructor
      · intro e
        have e3 : xs[i].fName = ⟨#[]⟩ := by rw [show xs[i] = noSet from e]; rfl
        have h4 := h0.1
        rw [e3] at h4
        exact absurd h4 (by decide)
      · intro e
        exact absurd e (by simp only; omega)
  · rcases st_has (xs := ys) (z := z) with ⟨j, hj, hz2, e2⟩ | h2
    · rw [e2, st_none h1]
      have h0 := set_in (hy j hj hj).1
      constructor
      · intro e
        have e3 : ys[j].fName = ⟨#[]⟩ := by rw [show ys[j] = noSet from e.symm]; rfl
        have h4 := h0.1
        rw [e3] at h4
        exact absurd h4 (by decide)
      · intro e
        exact absurd e (by simp only; omega)
    · rw [st_none h1, st_none h2]
      exact ⟨fun _ => rfl, fun _ => rfl⟩

end Go.Proofs.Ytjeklbhdngkngaa
