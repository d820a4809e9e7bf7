/- FnVisits: the plain part. -/
import Derived.Test.YtjeklbhdngkngaaDrwV
import Derived.Test.YtjeklbhdngkngaaMiss
import Derived.Test.YtjeklbhdngkngaaSpe
namespace Go.Proofs.Ytjeklbhdngkngaa
open Go.RowKit
set_option linter.unusedVariables false

theorem up_visits {xs : List DVisit} (h1 : ∀ x ∈ xs, visitD x = true) (h2 : UpK DVisit.fDay xs) : VisitsTo xs xs.length := fun j hj _ => ⟨h1 _ (List.getElem_mem hj), fun h0 => h2.at (by omega) hj⟩
theorem DrwV.visits {xs : List DVisit} (h : DrwV xs) : visitsB xs = true := visitsB_iff.2 ⟨up_visits h.one h.up, by have := h.len; omega⟩
theorem DrwV.to {xs : List DVisit} (h : DrwV xs) : VisitsTo xs xs.length := up_visits h.one h.up
noncomputable def bothV (xs ys : List DVisit) : List DVisit := mergeK DVisit.fDay xs ys
theorem bothV_mem {xs ys : List DVisit} : ∀ z ∈ bothV xs ys, z ∈ xs ∨ z ∈ ys := mergeK_mem xs ys
theorem bothV_length (xs ys : List DVisit) : (bothV xs ys).length = xs.length + ys.length := mergeK_length xs ys
theorem bothV_ok {xs ys : List DVisit} (h : DrwV xs) (h2 : DrwV ys) : ∀ x ∈ bothV xs ys, x.ok := fun x hx => (bothV_mem x hx).elim (h.ok x) (h2.ok x)
theorem bothV_who {xs ys : List DVisit} (h : DrwV xs) (h2 : DrwV ys) : ∀ x ∈ bothV xs ys, x.fWho.size ≤ 4 := fun x hx => (bothV_mem x hx).elim (h.who x) (h2.who x)
theorem bothV_up {xs ys : List DVisit} (h : DrwV xs) (h2 : DrwV ys) : UpK DVisit.fDay (bothV xs ys) := (mergeK_ok xs ys h.up h2.up).1
theorem bothV_to {xs ys : List DVisit} (h : DrwV xs) (h2 : DrwV ys) : VisitsTo (bothV xs ys) (bothV xs ys).length := up_visits (fun x hx => (bothV_mem x hx).elim (h.one x) (h2.one x)) (bothV_up h h2)
theorem bothV_visits {xs ys : List DVisit} (h : DrwV xs) (h2 : DrwV ys) : visitsB (bothV xs ys) = true := visitsB_iff.2 ⟨bothV_to h h2, by have := bothV_length xs ys; have := h.len; have := h2.len; omega⟩
theorem fMv_both {xs ys : List DVisit} (h : DrwV xs) (h2 : DrwV ys) : fMv xs ys = (bothV xs ys, 0) := by
  unfold fMv
  rw [h.visits, h2.visits, if_neg (by simp), if_neg (by have := h.len; have := h2.len; omega)]
  rfl
theorem spentI_nil (who : ByteArray) : spentI [] who = 0 := by simp [spentI, visF, spentL]
theorem spentI_cons (x : DVisit) (l : List DVisit) (who : ByteArray) : spentI (x :: l) who = spentI [x] who + spentI l who := by
  have e : visF (x :: l) who = visF [x] who ++ visF l who := by
    rw [show x :: l = [x] ++ l from rfl]
    unfold visF
    rw [List.filter_append]
  unfold spentI
  rw [e, spentL_app]
theorem spentI_both (a b : List DVisit) (who : ByteArray) : spentI (bothV a b) who = spentI a who + spentI b who := by
  unfold bothV
  induction a, b using mergeK.induct DVisit.fDay with
  | case1 b => rw [mergeK, spentI_nil]; omega
  | case2 a h => rw [mergeK_nil, spentI_nil]; omega
  | case3 x a y b h ih => rw [mergeK, if_pos h, spentI_cons, ih, spentI_cons x a]; omega
  | case4 x a y b h ih => rw [mergeK, if_neg h, spentI_cons, ih, spentI_cons y b]; omega

/-- the day of one of the visits; 0 behind the end -/
def dayAt (V : List DVisit) (k : Nat) : Int := match V[k]? with | some x => x.fDay | none => 0
theorem dayAt_at {V : List DVisit} {k : Nat} (h : k < V.length) : dayAt V k = V[k].fDay := by simp only [dayAt, List.getElem?_eq_getElem h]
/-- the first k gaps -/
def gapsT (V : List DVisit) : Nat → List Int
  | 0 => []
  | k + 1 => gapsT V k ++ [dayAt V (k + 1) - dayAt V k]
theorem gapsT_length (V : List DVisit) : ∀ k, (gapsT V k).length = k
  | 0 => rfl
  | k + 1 => by rw [gapsT, List.length_append, gapsT_length V k]; rfl
theorem gapsT_at (V : List DVisit) : ∀ {k i : Nat}, i < k → (gapsT V k)[i]? = some (dayAt V (i + 1) - dayAt V i)
  | 0, _, h => absurd h (by omega)
  | k + 1, i, h => by
    rw [gapsT]
    rcases Nat.lt_or_ge i k with h1 | h1
    · rw [List.getElem?_append_left (by rw [gapsT_length]; exact h1), gapsT_at V h1]
    · have e : i = k := by omega
      subst e
      rw [List.getElem?_append_right (by rw [gapsT_length]; omega), gapsT_length]
      simp
/-- the gaps of a customer -/
def gapsI (xs : List DVisit) (who : ByteArray) : List Int := gapsT (visF xs who) ((visF xs who).length - 1)
theorem visF_up {xs : List DVisit} (h : UpK DVisit.fDay xs) (who : ByteArray) : UpK DVisit.fDay (visF xs who) := List.Pairwise.filter _ h
theorem visF_day {xs : List DVisit} (h : VisitsTo xs xs.length) (who : ByteArray) : ∀ x ∈ visF xs who, DayIn x := fun x hx => visits_day h x (List.mem_filter.1 hx).1
theorem dayAt_bd {V : List DVisit} (h : ∀ x ∈ V, DayIn x) (k : Nat) : 0 ≤ dayAt V k ∧ dayAt V k ≤ 100000 := by
  unfold dayAt
  split
  · rename_i x hx
    exact h x (List.mem_of_getElem? hx)
  · omega
theorem dayAt_up {V : List DVisit} (h : UpK DVisit.fDay V) {i j : Nat} (hi : i ≤ j) (hj : j < V.length) : dayAt V i ≤ dayAt V j := by
  rw [dayAt_at (show i < V.length by omega), dayAt_at hj]
  exact h.at hi hj
theorem lastI_dayAt {xs : List DVisit} {who : ByteArray} (h : visF xs who ≠ []) : dayAt (visF xs who) ((visF xs who).length - 1) = lastI xs who := by
  have hl : 0 < (visF xs who).length := List.length_pos_iff.2 h
  rw [dayAt_at (by omega), lastI, List.getLast?_eq_some_getLast h, List.getLast_eq_getElem]
/-- the day of the first visit; -1 where there is none -/
def headD (V : List DVisit) : Int := match V.head? with | some x => x.fDay | none => -1
theorem headD_nil : headD [] = -1 := rfl
theorem headD_eq {V : List DVisit} (h : V ≠ []) : headD V = dayAt V 0 := by
  cases V with
  | nil => exact absurd rfl h
  | cons x l => rfl
theorem headD_no {xs : List DVisit} {who : ByteArray} {k : Nat} (h : k < xs.length) (d : (xs[k].fWho.toList == who.toList) = false) : visF (xs.take (k + 1)) who = visF (xs.take k) who := by
  rw [visF_take h, show visF [xs[k]] who = [] by simp [visF, notOf, d], List.append_nil]
theorem headD_yes {xs : List DVisit} {who : ByteArray} {k : Nat} (h : k < xs.length) (d : (xs[k].fWho.toList == who.toList) = true) : visF (xs.take (k + 1)) who = visF (xs.take k) who ++ [xs[k]] := by
  rw [visF_take h, show visF [xs[k]] who = [xs[k]] by simp [visF, notOf, d]]
theorem headD_app {V : List DVisit} {x : DVisit} (h : 0 ≤ headD V) : headD (V ++ [x]) = headD V := by
  cases V with
  | nil => rw [headD_nil] at h; omega
  | cons y l => rfl
theorem headD_app0 {V : List DVisit} {x : DVisit} (hV : ∀ y ∈ V, DayIn y) (h : headD V < 0) : headD (V ++ [x]) = x.fDay := by
  cases V with
  | nil => rfl
  | cons y l =>
    have h1 := (hV y (by simp)).1
    have h2 : headD (y :: l) = y.fDay := rfl
    omega
theorem headD_bd {V : List DVisit} (hV : ∀ y ∈ V, DayIn y) : -1 ≤ headD V ∧ headD V ≤ 100000 := by
  cases V with
  | nil => rw [headD_nil]; omega
  | cons y l =>
    have h1 := hV y (by simp)
    have h2 : headD (y :: l) = y.fDay := rfl
    unfold DayIn at h1
    omega
/-- the customers who were missed -/
noncomputable def missV (xs : List DVisit) (d gp : Int) : List Str := (setOf (namesN (custN xs) xs.length)).filter (fun s => !missP xs d gp s)
theorem fMiss_both {xs : List DVisit} {d gp : Int} (h : visitsB xs = true) (h1 : 0 ≤ d ∧ d ≤ 100000) (h2 : 0 ≤ gp ∧ gp ≤ 100000) : fMiss xs d gp = (missV xs d gp, 0) := by
  unfold fMiss
  rw [if_neg (by rw [h]; exact fun e => by cases e), if_neg (by rw [inB_iff.2 h1, inB_iff.2 h2]; exact fun e => by cases e)]
  rfl
theorem fCust_both {xs : List DVisit} (h : visitsB xs = true) : fCust xs = (setOf (namesN (custN xs) xs.length), 0) := by
  unfold fCust
  rw [if_neg (by rw [h]; exact fun e => by cases e)]
theorem missV_mem {xs : List DVisit} {d gp : Int} {z : Str} (h : z ∈ setOf (namesN (custN xs) xs.length)) : z ∈ missV xs d gp ↔ gp < d - lastI xs (tB z) := by
  unfold missV
  rw [List.mem_filter]
  unfold missP
  simp only [h, true_and, Bool.not_eq_true', decide_eq_false_iff_not]
  omega
/-- whether a text is one of the first k -/
noncomputable def inT (l : List Str) (z : Str) (k : Nat) : Bool := @decide (z ∈ l.take k) (Classical.propDecidable _)
theorem inT_zero (l : List Str) (z : Str) : inT l z 0 = false := by simp [inT]
theorem inT_iff {l : List Str} {z : Str} {k : Nat} : inT l z k = true ↔ z ∈ l.take k := by simp [inT]
theorem inT_succ {l : List Str} {z : Str} {k : Nat} (h : k < l.length) : inT l z (k + 1) = (inT l z k || decide (l[k] = z)) := by
  rw [Bool.eq_iff_iff, inT_iff, Bool.or_eq_true, inT_iff, decide_eq_true_iff, List.take_succ_eq_append_getElem h, List.mem_append]
  constructor
  · rintro (h1 | h1)
    · exact .inl h1
    · exact .inr (List.mem_singleton.1 h1).symm
  · rintro (h1 | h1)
    · exact .inl h1
    · exact .inr (by rw [h1]; simp)
theorem inT_all {xs : List DVisit} {d gp : Int} {z : Str} (h : z ∈ setOf (namesN (custN xs) xs.length)) : inT (missV xs d gp) z (missV xs d gp).length = decide (gp < d - lastI xs (tB z)) := by
  rw [Bool.eq_iff_iff, inT_iff, List.take_length, missV_mem h, decide_eq_true_iff]
theorem visF_long {xs : List DVisit} (h : ∀ x ∈ xs, x.fWho.size ≤ 4) {who : ByteArray} (hw : 4 < who.size) : visF xs who = [] := by
  unfold visF
  rw [List.filter_eq_nil_iff]
  intro x hx
  have h1 := h x hx
  unfold notOf
  cases d : (x.fWho.toList == who.toList)
  · simp
  · have e := eq_of_beq d
    have e2 := congrArg List.length e
    rw [Lib.toList_data, Lib.toList_data] at e2
    have e3 : x.fWho.data.toList.length = x.fWho.size := by simp
    have e4 : who.data.toList.length = who.size := by simp
    omega

end Go.Proofs.Ytjeklbhdngkngaa
