/- Papers that agree with the greatest trust: the search, no program in sight. -/
import Derived.Test.YtdbjbkdcmhekfaaVPaper
import Derived.Test.YtdbjbkdcmhekfaaLoopM
namespace Go.Proofs.Ytdbjbkdcmhekfaa
open Go.RowKit
set_option linter.unusedVariables false

/-- two papers clash -/
def clashB (a b : DPaper) : Bool := (!(a.fMaker.toList == b.fMaker.toList)) || decide (a.fLate < b.fEarly) || decide (b.fLate < a.fEarly)
theorem clashB_comm (a b : DPaper) : clashB a b = clashB b a := by
  unfold clashB
  rw [show (a.fMaker.toList == b.fMaker.toList) = (b.fMaker.toList == a.fMaker.toList) from BEq.comm]
  cases (b.fMaker.toList == a.fMaker.toList) <;> cases decide (a.fLate < b.fEarly) <;> cases decide (b.fLate < a.fEarly) <;> rfl
def clI (xs : List DPaper) (i j : Nat) : Bool := match xs[i]?, xs[j]? with
  | some a, some b => clashB a b
  | _, _ => false
theorem clI_at {xs : List DPaper} {i j : Nat} (hi : i < xs.length) (hj : j < xs.length) : clI xs i j = clashB xs[i] xs[j] := by simp only [clI, List.getElem?_eq_getElem hi, List.getElem?_eq_getElem hj]
def clAny (xs : List DPaper) (t : List Nat) (k : Nat) : Bool := t.any fun i => clI xs i k
/-- they agree -/
def Agr (xs : List DPaper) (t : List Nat) : Prop := t.Pairwise fun i j => clI xs i j = false
theorem Agr.snoc {xs : List DPaper} {t : List Nat} {k : Nat} (h : Agr xs t) (hc : clAny xs t k = false) : Agr xs (t ++ [k]) := by
  unfold Agr
  rw [List.pairwise_append]
  refine ⟨h, List.pairwise_singleton _ _, fun a ha b hb => ?_⟩
  have hb2 : b = k := by simpa using hb
  subst hb2
  have h2 := List.any_eq_false.1 hc a ha
  simpa using h2
def truOf (xs : List DPaper) (k : Nat) : Int := match xs[k]? with | some x => x.fTrust | none => 0
theorem truOf_at {xs : List DPaper} {k : Nat} (h : k < xs.length) : truOf xs k = xs[k].fTrust := by simp only [truOf, List.getElem?_eq_getElem h]
def sumT (xs : List DPaper) (t : List Nat) : Int := (t.map (truOf xs)).sum
theorem sumT_snoc (xs : List DPaper) (t : List Nat) (k : Nat) : sumT xs (t ++ [k]) = sumT xs t + truOf xs k := by simp [sumT]
theorem sumT_app (xs : List DPaper) (t u : List Nat) : sumT xs (t ++ u) = sumT xs t + sumT xs u := by simp [sumT]
def nodeT (S : WS) : Option WS := if S.left = 0 then none else some ⟨S.left - 1, S.best, S.most⟩
/-- the search from paper k on, m papers left -/
def srchT (xs : List DPaper) : Nat → Nat → List Nat → Int → WS → Option WS
  | 0, _, t, s, S => some (if S.most < s then ⟨S.left, t, s⟩ else S)
  | m + 1, k, t, s, S =>
    (if clAny xs t k = true then some S else (nodeT S).bind fun S1 => srchT xs m (k + 1) (t ++ [k]) (s + truOf xs k) S1).bind fun S2 =>
      (nodeT S2).bind fun S3 => srchT xs m (k + 1) t s S3
/-- best stays, or is a way that goes on from t -/
def StepT (xs : List DPaper) (t : List Nat) (S S' : WS) : Prop :=
  (S'.best = S.best ∧ S'.most = S.most) ∨ (∃ l, S'.best = t ++ l) ∧ sumT xs S'.best = S'.most ∧ 0 < S'.most
theorem nodeT_same {S S' : WS} (h : nodeT S = some S') : S'.best = S.best ∧ S'.most = S.most := by
  unfold nodeT at h
  split at h
  · cases h
  · cases h
    exact ⟨rfl, rfl⟩
theorem StepT.trans {xs : List DPaper} {t u : List Nat} {S S1 S2 : WS} (h1 : StepT xs (t ++ u) S S1) (h2 : StepT xs t S1 S2) : StepT xs t S S2 := by
  rcases h2 with ⟨a, b⟩ | h2
  · rcases h1 with ⟨c, d⟩ | ⟨⟨l, c⟩, d, e⟩
    · exact .inl ⟨a.trans c, b.trans d⟩
    · exact .inr ⟨⟨u ++ l, by rw [a, c, List.append_assoc]⟩, by rw [a, b]; exact d, by rw [b]; exact e⟩
  · exact .inr h2
theorem StepT.of_same {xs : List DPaper} {t : List Nat} {S S1 S2 : WS} (h : S1.best = S.best ∧ S1.most = S.most) (h2 : StepT xs t S1 S2) : StepT xs t S S2 := by
  rcases h2 with ⟨a, b⟩ | h2
  · exact .inl ⟨a.trans h.1, b.trans h.2⟩
  · exact .inr h2
theorem srchT_step {xs : List DPaper} : ∀ (m k : Nat) (t : List Nat) (s : Int) (S S' : WS), s = sumT xs t → 0 ≤ S.most → srchT xs m k t s S = some S' → StepT xs t S S' ∧ 0 ≤ S'.most
  | 0, k, t, s, S, S', hs, h0, h => by
    rw [srchT] at h
    injection h with h
    subst h
    by_cases hlt : S.most < s
    · rw [if_pos hlt]
      exact ⟨.inr ⟨⟨[], by simp⟩, hs.symm, by show 0 < s; omega⟩, by show 0 ≤ s; omega⟩
    · rw [if_neg hlt]
      exact ⟨.inl ⟨rfl, rfl⟩, h0⟩
  | m + 1, k, t, s, S, S', hs, h0, h => by
    rw [srchT] at h
    obtain ⟨S2, h1, h⟩ := Option.bind_eq_some_iff.1 h
    obtain ⟨S3, h3, h⟩ := Option.bind_eq_some_iff.1 h
    have hn := nodeT_same h3
    have ha : StepT xs t S S2 ∧ 0 ≤ S2.most := by
      split at h1
      · cases h1
        exact ⟨.inl ⟨rfl, rfl⟩, h0⟩
      · obtain ⟨S1, h4, h5⟩ := Option.bind_eq_some_iff.1 h1
        have hn1 := nodeT_same h4
        obtain ⟨h6, h7⟩ := srchT_step m (k + 1) (t ++ [k]) (s + truOf xs k) S1 S2 (by rw [sumT_snoc, hs]) (by rw [hn1.2]; exact h0) h5
        exact ⟨.of_same hn1 (StepT.trans (u := [k]) h6 (.inl ⟨rfl, rfl⟩)), h7⟩
    obtain ⟨h6, h7⟩ := srchT_step m (k + 1) t s S3 S' hs (by rw [hn.2]; exact ha.2) h
    exact ⟨StepT.trans (u := []) (by rw [List.append_nil]; exact ha.1) (.of_same hn h6), h7⟩

/-- the best way so far comes ahead of whatever goes on from t with papers from k on -/
def Ahead (t : List Nat) (k : Nat) (b : List Nat) : Prop :=
  ∃ (p : List Nat) (j : Nat) (r : List Nat), b = p ++ j :: r ∧ ((t = p ∧ j < k) ∨ ∃ j' r', t = p ++ j' :: r' ∧ j < j')
theorem Ahead.take {t : List Nat} {k : Nat} {b : List Nat} (h : Ahead t k b) : Ahead (t ++ [k]) (k + 1) b := by
  obtain ⟨p, j, r, hb, h⟩ := h
  refine ⟨p, j, r, hb, .inr ?_⟩
  rcases h with ⟨rfl, hj⟩ | ⟨j', r', rfl, hj⟩
  · exact ⟨k, [], rfl, hj⟩
  · exact ⟨j', r' ++ [k], by simp, hj⟩
theorem Ahead.skip {t : List Nat} {k : Nat} {b : List Nat} (h : Ahead t k b) : Ahead t (k + 1) b := by
  obtain ⟨p, j, r, hb, h⟩ := h
  refine ⟨p, j, r, hb, ?_⟩
  rcases h with ⟨h1, h2⟩ | h
  · exact .inl ⟨h1, by omega⟩
  · exact .inr h
/-- what is known of the best way -/
def BestT (xs : List DPaper) (t : List Nat) (k : Nat) (S : WS) : Prop := (S.best = [] ∧ S.most = 0) ∨ (Ahead t k S.best ∧ sumT xs S.best = S.most)
theorem BestT.take {xs : List DPaper} {t : List Nat} {k : Nat} {S : WS} (h : BestT xs t k S) : BestT xs (t ++ [k]) (k + 1) S := by
  rcases h with h | ⟨h1, h2⟩
  · exact .inl h
  · exact .inr ⟨h1.take, h2⟩
theorem BestT.skip {xs : List DPaper} {t : List Nat} {k : Nat} {S S2 : WS} (h : BestT xs t k S) (hs : StepT xs (t ++ [k]) S S2) : BestT xs t (k + 1) S2 := by
  rcases hs with ⟨a, b⟩ | ⟨⟨l, a⟩, b, c⟩
  · rcases h with ⟨h1, h2⟩ | ⟨h1, h2⟩
    · exact .inl ⟨a.trans h1, b.trans h2⟩
    · exact .inr ⟨by rw [a]; exact h1.skip, by rw [a, b]; exact h2⟩
  · exact .inr ⟨⟨t, k, l, by rw [a]; simp, .inl ⟨rfl, Nat.lt_succ_self k⟩⟩, b⟩
theorem BestT.same {xs : List DPaper} {t : List Nat} {k : Nat} {S S2 : WS} (h : BestT xs t k S) (hs : S2.best = S.best ∧ S2.most = S.most) : BestT xs t k S2 := by
  unfold BestT
  rw [hs.1, hs.2]
  exact h
/-- the reference's order of ways -/
def lessL : List Nat → List Nat → Bool
  | [], [] => false
  | [], _ :: _ => true
  | _ :: _, [] => false
  | a :: r, b :: q => if a = b then lessL r q else decide (a < b)
theorem lessL_app (p a b : List Nat) : lessL (p ++ a) (p ++ b) = lessL a b := by
  induction p with
  | nil => rfl
  | cons x p ih => simp [lessL, ih]
theorem sumT_pos {xs : List DPaper} (hp : ∀ x ∈ xs, 1 ≤ x.fTrust) : ∀ (t : List Nat), (∀ i ∈ t, i < xs.length) → (t.length : Int) ≤ sumT xs t
  | [], _ => by simp [sumT]
  | i :: r, h => by
    have h1 := sumT_pos hp r (fun j hj => h j (by simp [hj]))
    have hi := h i (by simp)
    have h2 := hp xs[i] (List.getElem_mem hi)
    have h3 : sumT xs (i :: r) = truOf xs i + sumT xs r := by simp [sumT]
    rw [h3, truOf_at hi, List.length_cons]
    omega
/-- a way of equal trust that comes later is not less -/
theorem BestT.tie {xs : List DPaper} (hp : ∀ x ∈ xs, 1 ≤ x.fTrust) {t : List Nat} {k : Nat} {S : WS} (h : BestT xs t k S) (hb : ∀ i ∈ S.best, i < xs.length) (ht : ∀ i ∈ t, i < xs.length) (he : sumT xs t = S.most) : lessL t S.best = false := by
  rcases h with ⟨h1, h2⟩ | ⟨⟨p, j, r, h1, h2⟩, h3⟩
  · have h4 := sumT_pos hp t ht
    rw [h1]
    cases t with
    | nil => rfl
    | cons a q => rw [List.length_cons] at h4; omega
  · rcases h2 with ⟨rfl, hj⟩ | ⟨j', r', rfl, hj⟩
    · exfalso
      have h4 := sumT_pos hp (j :: r) (fun i hi => hb i (by rw [h1]; exact List.mem_append_right _ hi))
      rw [h1, sumT_app] at h3
      rw [List.length_cons] at h4
      omega
    · rw [h1, lessL_app, lessL, if_neg (by omega)]
      exact decide_eq_false (by omega)
noncomputable def fTru (xs : List DPaper) (b : Int) : List Int × Int × Int :=
  if papersB xs = false then ([], 0, 1) else if inB b 1 20000 = false then ([], 0, 2) else match srchT xs xs.length 0 [] 0 ⟨b.toNat, [], 0⟩ with
  | none => ([], 0, 5)
  | some S => (intsN S.best, S.most, 0)

end Go.Proofs.Ytdbjbkdcmhekfaa
