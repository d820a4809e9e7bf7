/- The customers who spent most: plain. -/
import Derived.Test.YtjeklbhdngkngaaSpe
namespace Go.Proofs.Ytjeklbhdngkngaa
open Go.RowKit
set_option linter.unusedVariables false

/-- a row in order, alike elements as they stood -/
def srtK {α : Type} (key : α → Int) : List α → List α
  | [] => []
  | x :: l => mergeK key [x] (srtK key l)
theorem srtK_ok {α : Type} {key : α → Int} : ∀ l : List α, UpK key (srtK key l) ∧ SameK key l (srtK key l)
  | [] => ⟨UpK.nil _, SameK.refl _ _⟩
  | x :: l => by
    have ih := srtK_ok (key := key) l
    have h := mergeK_ok (key := key) [x] (srtK key l) (UpK.one _ _) ih.1
    exact ⟨h.1, ((SameK.refl key [x]).app ih.2).trans h.2⟩
theorem srtK_of {α : Type} {key : α → Int} {l z : List α} (h : UpK key z) (h2 : SameK key l z) : srtK key l = z := by
  have h3 := srtK_ok (key := key) l
  refine SameK.unique h3.1 h ⟨by rw [h2.1, h3.2.1], fun k => by rw [h2.2 k, h3.2.2 k]⟩
theorem srtK_length {α : Type} {key : α → Int} (l : List α) : (srtK key l).length = l.length := (srtK_ok l).2.1
/-- the first of the least keys comes first -/
theorem srtK_pick {α : Type} {key : α → Int} {a b : List α} {x : α} (ha : ∀ y ∈ a, key x < key y) (hb : ∀ y ∈ b, key x ≤ key y) : srtK key (a ++ x :: b) = x :: srtK key (a ++ b) := by
  have h := srtK_ok (key := key) (a ++ b)
  refine srtK_of (List.pairwise_cons.2 ⟨fun y hy => ?_, h.1⟩) ?_
  · rcases List.mem_append.1 (h.2.mem hy) with h1 | h1
    · exact Int.le_of_lt (ha y h1)
    · exact hb y h1
  · have h1 : SameK key (a ++ [x]) ([x] ++ a) := SameK.turn fun u hu v hv => by rw [List.mem_singleton.1 hv]; exact ha u hu
    have h2 := (h1.app (SameK.refl key b)).trans (by rw [List.append_assoc]; exact (SameK.refl key [x]).app h.2)
    rw [List.append_assoc] at h2
    exact h2
theorem UpK.map {α β : Type} {key : β → Int} (f : α → β) {l : List α} (h : UpK (fun x => key (f x)) l) : UpK key (l.map f) := List.pairwise_map.2 h
theorem SameK.map {α β : Type} {key : β → Int} (f : α → β) {l l' : List α} (h : SameK (fun x => key (f x)) l l') : SameK key (l.map f) (l'.map f) := by
  refine ⟨by rw [List.length_map, List.length_map, h.1], fun k => ?_⟩
  rw [List.filter_map, List.filter_map]
  exact congrArg (List.map f) (h.2 k)
theorem srtK_map {α β : Type} {key : β → Int} (f : α → β) (l : List α) : srtK key (l.map f) = (srtK (fun x => key (f x)) l).map f := by
  have h := srtK_ok (key := fun x => key (f x)) l
  exact srtK_of (h.1.map f) (h.2.map f)
/-- the order of names -/
def keyN (xs : List DVisit) (s : Str) : Int := keyB xs (tB s)
def namesV (xs : List DVisit) : List Str := setOf (namesN (custN xs) xs.length)
theorem namesV_len (xs : List DVisit) : (namesV xs).length ≤ xs.length := by
  have h1 := namesN_len (custN_len xs) xs.length
  have h2 := setOf_len (namesN (custN xs) xs.length)
  unfold namesV
  omega
noncomputable def fBst (xs : List DVisit) (m : Int) : List Str × Int := if visitsB xs = false then ([], 1) else if inB m 0 32 = false then ([], 2) else ((srtK (keyN xs) (namesV xs)).take m.toNat, 0)
theorem fBst_small (xs : List DVisit) (m : Int) : (fBst xs m).1.length ≤ 32 := by
  unfold fBst
  split
  · simp
  · split
    · simp
    · rename_i h1 _
      have h := (visitsB_iff.1 (by simpa using h1)).2
      have h2 := namesV_len xs
      rw [List.length_take, srtK_length]
      omega
theorem sC_flat (l : List Str) : ((l.map tB).map sC).flatten = l.map vS := by
  induction l with
  | nil => rfl
  | cons x l ih => rw [List.map_cons, List.map_cons, List.flatten_cons, ih]; rfl

set_option maxHeartbeats 800000 in
set_option maxRecDepth 100000 in
theorem cloneStr_ok (A : Option Addr) (c : Nat) (ns : List Str) (w : World) (hA : ∀ w', Below w.heap.size w w' → SrcAt w' A (ns.map vS)) (hn : ns.length ≤ 1048576) (hnone : A = none → c = 0) :
    Calls Try.prog 107 #[.slice A ns.length c] w fun e w' => ∃ g, e = .returned (.slice (some ⟨g, 0, none⟩) ns.length ns.length) ∧ w'.ownsRow w.heap.size 9 1 (.slice (some ⟨g, 0, none⟩) ns.length ns.length) ns.length (ns.map vS) ∧ Below w.heap.size w w' := by
  obtain ⟨i0, hi, hz0, hz1, hz2⟩ := info_parts infoStr
  have HA := hid hA
  have HN := hid hnone
  have hsl : (ns.map vS).length = ns.length * 1 := by simp
  clear hA hnone
  go_enter Try.func107, Try.ntmps107
  go_wp2_with (first
    | (at_make; refine wpList_make_own _ rfl _ _ _ rfl w.heap.size 9 i0 (.string ⟨#[]⟩) 1 Try.underlying57 hi hz0 hz1 .i64 .i64 _ ns.length rfl rfl rfl (by rw [hz2]; omega) (by unfold maxLen; omega) (Nat.le_refl _) ?_; intro w1 hown1 hg1; have HB := hid ((Below.refl _ _).grown hg1 (Nat.le_refl _) (fun k hk => by cases hk)); have HS := hid (HA.out _ HB.out); have HO1 := hid hown1; clear hg1 hown1)
    | (at_builtin; refine wpList_append_fits_any _ rfl _ _ 57 rfl w.heap.size 9 i0 1 Try.underlying57 hi hz1 _ 0 ns.length [] rfl HO1.out A ns.length c (ns.map vS) rfl hsl (fun h => fits_none HS.out HN.out hsl (by omega) h) (fun ad had j u hu => fits_some HS.out had hu) (by simp [vS, Value.oneCell']) (by omega) ?_; intro w2 hown2 hg2; simp only [Nat.zero_add, List.nil_append] at hown2))
  have HO := hid hown2
  have HB2 := hid (HB.out.grown hg2 HB.out.size (fun k hk => by injection hk with hk; subst hk; exact Nat.le_refl _))
  clear hown2 hg2
  (try go_wp2_with fail)
  go_ret
  exact ⟨w.heap.size, by simp, HO.out, HB2.out⟩
theorem cloneStr_gen (A : Option Addr) (c n : Nat) (ns : List Str) (w : World) (hA : ∀ w', Below w.heap.size w w' → SrcAt w' A (ns.map vS)) (hn : ns.length ≤ 1048576) (hnone : A = none → c = 0) (h : ns.length = n) :
    Calls Try.prog 107 #[.slice A n c] w fun e w' => ∃ g, e = .returned (.slice (some ⟨g, 0, none⟩) n n) ∧ w'.ownsRow w.heap.size 9 1 (.slice (some ⟨g, 0, none⟩) n n) n (ns.map vS) ∧ Below w.heap.size w w' := by
  subst h
  exact cloneStr_ok A c ns w hA hn hnone
theorem customers_gen (A : Option Addr) (c : Nat) (xs : List DVisit) (w : World) (hA : RowsAt w 4 A (xs.map DVisit.cells)) (hn : xs.length ≤ 64) (F : List Str) (hF : namesV xs = F) :
    Calls Try.prog 103 #[.slice A xs.length c] w fun e w' => (∃ g c', e = .returned (.slice (some ⟨g, 0, none⟩) F.length c') ∧ w'.ownsRow w.heap.size 9 1 (.slice (some ⟨g, 0, none⟩) F.length c') F.length (F.map vS)) ∧ Below w.heap.size w w' := by
  subst hF
  exact customers_ok A c xs w hA hn
theorem own_capB {w : World} {B g n c : Nat} {T : TypeId} {K : Nat} {l : List Value} (h : w.ownsRow B T K (.slice (some ⟨g, 0, none⟩) n c) n l) : n ≤ c := by
  rcases h.2 with ⟨h0, _⟩ | ⟨g', cap, cur, he, _, _, h3, _⟩
  · cases h0
  · injection he with h1 h2 h4
    subst h4
    exact h3
theorem own_src {w : World} {B g n c : Nat} {l : List Str} (h : w.ownsRow B 9 1 (.slice (some ⟨g, 0, none⟩) n c) n (l.map vS)) (k : Nat) : ∀ w', Below w.heap.size w w' → SrcAt w' (some ⟨g, 0, none⟩) ((l.take k).map vS) := fun w' hb _ => by
  refine ⟨_, rfl, fun j u hu => ?_⟩
  have hadd : (⟨g, 0, none⟩ : Addr).add j = ⟨g, j, none⟩ := by unfold Addr.add; split <;> simp_all
  rw [hadd]
  have hln : l.length = n := by have := h.1; rw [List.length_map] at this; omega
  rw [List.getElem?_map, List.getElem?_take] at hu
  split at hu
  · cases hj : l[j]? with
    | none => rw [hj] at hu; cases hu
    | some y =>
      rw [hj] at hu
      have hjl : j < l.length := (List.getElem?_eq_some_iff.1 hj).1
      rw [(own_below h hb).cellAt j (by omega), List.getElem?_map, hj]
      exact hu
  · cases hu

end Go.Proofs.Ytjeklbhdngkngaa
