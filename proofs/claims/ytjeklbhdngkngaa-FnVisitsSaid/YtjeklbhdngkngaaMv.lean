/- Merged visits: the answer, the order, the walk of the program. -/
import Derived.Test.YtjeklbhdngkngaaStalV
import Derived.Test.YtjeklbhdngkngaaIVisit
import Derived.Test.YtjeklbhdngkngaaVVisit
import Derived.Test.YtjeklbhdngkngaaApp2
import Derived.Test.YtjeklbhdngkngaaRowOps
namespace Go.Proofs.Ytjeklbhdngkngaa
open Go.RowKit
set_option linter.unusedVariables false

/-- a list in new memory and a code -/
def RetVisitC (w : World) (r : List DVisit × Int) (e : Ending) (w' : World) : Prop :=
  ∃ A c, e = .returned (.tuple #[.slice A r.1.length c, .int .i64 r.2]) ∧ w'.ownsRow w.heap.size 76 4 (.slice A r.1.length c) r.1.length (r.1.map DVisit.cells).flatten ∧ (A = none → c = 0) ∧ Below w.heap.size w w'
theorem RetVisitC.nil {w w' : World} {r : List DVisit × Int} {c : Int} (h : r = ([], c)) (hb : Below w.heap.size w w') : RetVisitC w r (.returned (.tuple #[.slice none 0 0, .int .i64 c])) w' := by
  subst h
  exact ⟨none, 0, rfl, World.ownsRow_nil _ _ _ _, fun _ => rfl, hb⟩
theorem RetVisitC.own {w w' : World} {r : List DVisit × Int} {c : Int} {v : Value} {l : List DVisit} {n : Nat} (h : r = (l, c)) (hn : n = l.length) (ho : w'.ownsRow w.heap.size 76 4 v n (l.map DVisit.cells).flatten) (hb : Below w.heap.size w w') : RetVisitC w r (.returned (.tuple #[v, .int .i64 c])) w' := by
  subst h hn
  obtain ⟨h1, h2⟩ := ho
  rcases h2 with ⟨rfl, h0⟩ | ⟨g, cap, cur, rfl, r⟩
  · have : l = [] := by simpa using h0
    subst this
    exact ⟨none, 0, rfl, World.ownsRow_nil _ _ _ _, fun _ => rfl, hb⟩
  · exact ⟨_, _, rfl, ⟨h1, .inr ⟨g, cap, cur, rfl, r⟩⟩, fun h => (by cases h), hb⟩

noncomputable def fMv (xs ys : List DVisit) : List DVisit × Int := if (visitsB xs && visitsB ys) = false then ([], 1) else if 32 < xs.length + ys.length then ([], 5) else (mergeK DVisit.fDay xs ys, 0)
theorem mergeK_length {key : DVisit → Int} (a b : List DVisit) : (mergeK key a b).length = a.length + b.length := by
  induction a, b using mergeK.induct key with
  | case1 b => rw [mergeK]; simp
  | case2 a h => rw [mergeK_nil]; simp
  | case3 x a y b h ih => rw [mergeK, if_pos h, List.length_cons, ih]; simp only [List.length_cons]; omega
  | case4 x a y b h ih => rw [mergeK, if_neg h, List.length_cons, ih]; simp only [List.length_cons]; omega
theorem fMv_small (xs ys : List DVisit) : (fMv xs ys).1.length ≤ 32 := by
  unfold fMv
  split
  · simp
  · split
    · simp
    · rw [mergeK_length]; omega
theorem visits_up {xs : List DVisit} (h : VisitsTo xs xs.length) : UpK DVisit.fDay xs := by
  refine List.pairwise_iff_getElem.2 fun i j hi hj hij => ?_
  induction j with
  | zero => omega
  | succ j ih =>
    have h1 := (h (j + 1) hj hj).2 (by omega)
    have e : j + 1 - 1 = j := by omega
    simp only [e] at h1
    rcases Nat.lt_or_ge i j with h2 | h2
    · exact Int.le_trans (ih (by omega) h2) h1
    · have e2 : i = j := by omega
      subst e2
      exact h1
/-- a day in range -/
def DayIn (x : DVisit) : Prop := 0 ≤ x.fDay ∧ x.fDay ≤ 100000
theorem visits_day {xs : List DVisit} (h : VisitsTo xs xs.length) : ∀ x ∈ xs, DayIn x := fun x hx => by
  obtain ⟨i, hi, rfl⟩ := List.getElem_of_mem hx
  have h1 := (h i hi hi).1
  unfold visitD visitB inB at h1
  simp only [Bool.and_eq_true, decide_eq_true_eq] at h1
  exact h1.1
set_option maxRecDepth 100000 in
theorem cmpV_ok (g : Nat) (w0 : World) : CmpV DVisit.fDay DayIn g w0 := by
  intro w hch x y hx hy
  have q1 : IntKind.i64.wrap (x.fDay - y.fDay) = x.fDay - y.fDay := IntWalk.i64_in _ (by unfold DayIn at hx hy; omega)
  have HX := hid hx
  have HY := hid hy
  clear hch hx hy
  go_enter Try.func98, Try.ntmps98
  go_wp2_with fail
  go_ret
  refine ⟨?_, ?_⟩
  · first | rfl | (rw [q1]; done)
  · exact (below_alloc _ _).alloc (by simp) _

set_option maxRecDepth 100000 in
theorem wpList_app_row {ops : Array Oper} {rest : List Oper} {o : Oper} {a : Act} {Q : Exit → Act → World → Prop} {w w0 : World} (hgd : o.guard = none) (s x : Operand) (t : TypeId)
    (ho : o.op = .call { callee := .builtin .append, args := #[s, x], argTypes := #[t, t] })
    (B : Nat) (e : TypeId) (z : Value) (size bytes : Nat) (ht : Try.prog.underlying t = some (.slice e)) (hinfo : (Try.prog.info? e).map (fun i => (i.zero, i.size, i.bytes)) = some (some z, size, bytes)) (hzs : z.cells.size = size) (hsz : 0 < size)
    (g n c : Nat) (xs : List Value) (hs : a.eval s = .slice (some ⟨g, 0, none⟩) n c) (hown : w.ownsRow B e size (.slice (some ⟨g, 0, none⟩) n c) n xs)
    (ad : Addr) (m c2 : Nat) (news : List Value) (hx : a.eval x = .slice (some ad) m c2) (hl : news.length = m * size) (hsrc : SrcAt w (some ad) news) (h1 : ∀ u ∈ news, u.oneCell' = true)
    (hbytes : (n + m) * (bytes + 1) ≤ 140737488355328) (hbase : B ≤ w.heap.size) (hbel : Below B w0 w)
    (h : ∀ g' c' w', w'.ownsRow B e size (.slice (some ⟨g', 0, none⟩) (n + m) c') (n + m) (xs ++ news) → B ≤ g' → g' < w'.heap.size → Below B w0 w' → wpList Try.prog ops Q rest (a.put o.dst (.slice (some ⟨g', 0, none⟩) (n + m) c')) w') : wpList Try.prog ops Q (o :: rest) a w := by
  obtain ⟨i0, hi, hz0, hz1, hz2⟩ := info_parts hinfo
  have hnm : n + m ≤ (n + m) * (bytes + 1) := Nat.le_mul_of_pos_right _ (by omega)
  have hb2 : (n + m) * bytes ≤ (n + m) * (bytes + 1) := Nat.mul_le_mul_left _ (by omega)
  refine wpList_append_own _ hgd s x t ho B e i0 z size bytes ht hi hz0 hz1 hz2 hzs hsz _ n xs hs hown ad m c2 news hx hl ?_ h1 (by unfold maxLen; omega) (by omega) hbase ?_
  · intro j u hu
    obtain ⟨ad', hA, hc⟩ := hsrc (by intro e; rw [e] at hu; simp at hu)
    injection hA with hA
    subst hA
    exact hc j u hu
  · intro v' w' g1 g2 g3
    have hb := hbel.grown g2 hbase (fun k hk => (hown.lt k hk).1)
    have g4 := g1
    obtain ⟨h1, h2⟩ := g1
    rcases h2 with ⟨rfl, h0⟩ | ⟨g', cap, cur, rfl, r⟩
    · exact absurd (g3.1 rfl).1 (fun h => by cases h)
    · exact h g' cap w' g4 (g4.lt g' rfl).1 (g4.lt g' rfl).2 hb

set_option maxHeartbeats 1600000 in
set_option maxRecDepth 100000 in
theorem implMvC_ok (g0 c0 : Nat) (xs : List DVisit) (g1 c1 : Nat) (ys : List DVisit) (w : World) (hA0 : RowsAt w 4 (some ⟨g0, 0, none⟩) (xs.map DVisit.cells)) (hk0 : ∀ x ∈ xs, x.ok) (hn0 : xs.length ≤ 1048576) (hA1 : RowsAt w 4 (some ⟨g1, 0, none⟩) (ys.map DVisit.cells)) (hk1 : ∀ x ∈ ys, x.ok) (hn1 : ys.length ≤ 1048576) :
    Calls Try.prog 33 #[.slice (some ⟨g0, 0, none⟩) xs.length c0, .slice (some ⟨g1, 0, none⟩) ys.length c1] w (RetVisitC w (fMv xs ys)) := by
  have HA0 := hid hA0
  have HA1 := hid hA1
  have HK0 := hid hk0
  have HK1 := hid hk1
  clear hA0 hA1 hk0 hk1
  have HG1 := hid (show ys ≠ [] → g1 < w.heap.size from fun h => by
    obtain ⟨b, o, hb, hlt, _⟩ := HA1.out (by intro e; rw [List.map_eq_nil_iff] at e; exact h e)
    injection hb with hb
    injection hb with hb
    subst hb
    exact hlt)
  cases d0 : visitsB xs
  · have HF := hid (show fMv xs ys = ([], 1) by unfold fMv; rw [d0]; rfl)
    go_enter Try.func33, Try.ntmps33
    go_wp2_with fail
    refine (ValidVisits_ok _ _ xs _ HA0.out HK0.out hn0).mono ?_
    rintro e w1 ⟨rfl, hb⟩
    have B1 := hid hb
    clear hb
    go_wp2_with fail
    go_ret2
    exact RetVisitC.nil HF.out B1.out
  cases d1 : visitsB ys
  · have HF := hid (show fMv xs ys = ([], 1) by unfold fMv; rw [d0, d1]; rfl)
    go_enter Try.func33, Try.ntmps33
    go_wp2_with fail
    refine (ValidVisits_ok _ _ xs _ HA0.out HK0.out hn0).mono ?_
    rintro e w1 ⟨rfl, hb⟩
    have B1 := hid hb
    clear hb
    go_wp2_with fail
    refine (ValidVisits_ok _ _ ys _ (HA1.out.below B1.out) HK1.out hn1).mono ?_
    rintro e w2 ⟨rfl, hb⟩
    have B2 := hid (below_trans B1.out hb)
    clear hb
    go_wp2_with fail
    go_ret2
    exact RetVisitC.nil HF.out B2.out
  have hv0 := visitsB_iff.1 d0
  have hv1 := visitsB_iff.1 d1
  have l0 := hv0.2
  have l1 := hv1.2
  have HV0 := hid hv0.1
  have HV1 := hid hv1.1
  have HC := hid (And.intro d0 d1)
  clear hv0 hv1
  by_cases h32 : 32 < xs.length + ys.length
  · have HF := hid (show fMv xs ys = ([], 5) by unfold fMv; rw [HC.out.1, HC.out.2, if_neg (by simp), if_pos h32])
    have e9 : decide ((xs.length : Int) + (ys.length : Int) ≤ 32) = false := decide_eq_false (by omega)
    go_enter Try.func33, Try.ntmps33
    go_wp2_with fail
    refine (ValidVisits_ok _ _ xs _ HA0.out HK0.out hn0).mono ?_
    rintro e w1 ⟨rfl, hb⟩
    have B1 := hid hb
    clear hb
    go_wp2_with fail
    refine (ValidVisits_ok _ _ ys _ (HA1.out.below B1.out) HK1.out hn1).mono ?_
    rintro e w2 ⟨rfl, hb⟩
    have B2 := hid (below_trans B1.out hb)
    clear hb
    have HS1 := hid (show ∀ w', Below w.heap.size w w' → SrcAt w' (some ⟨g1, 0, none⟩) (ys.map DVisit.cells).flatten from fun w' hb => (HA1.out.below hb).src (cellsVisit_len ys) (by omega))
    go_wp2_with (first
      | (go_at_call 96; refine (cloneVisit_ok _ _ xs _ (HA0.out.below B2.out) hn0 (fun h => by cases h)).mono ?_; rintro e w3 ⟨g5, rfl, ho5, hb5⟩; have B3 := hid (below_trans B2.out hb5); have O3 := hid (own_mono (B' := w.heap.size) ho5 B2.out.size); clear ho5 hb5)
      | (at_builtin; refine wpList_app_row (w0 := w) rfl (.tmp 16) (.tmp 17) 50 rfl w.heap.size 76 (.agg #[.int .i64 0, .string ⟨#[]⟩, .int .i64 0, .int .i64 0]) 4 40 Try.underlying50 infoVisit rfl (by decide) g5 xs.length xs.length _ rfl O3.out ⟨g1, 0, none⟩ ys.length c1 (ys.map DVisit.cells).flatten rfl (flatVisit_length ys) (HS1.out _ B3.out) (oneVisit ys) (by omega) B3.out.size B3.out ?_; intro g6 c6 w4 ho6 hlo6 hlt6 hb6; have B4 := hid hb6; have O4 := hid ho6; have L4 := hid hlo6; have M4 := hid hlt6; clear ho6 hb6 hlo6 hlt6)
      | (go_at_call 69; refine (few_ok _ _ _).mono ?_; rintro e w' ⟨rfl, rfl⟩))
    go_ret2
    exact RetVisitC.nil HF.out B4.out
  · have HF := hid (show fMv xs ys = (mergeK DVisit.fDay xs ys, 0) by unfold fMv; rw [HC.out.1, HC.out.2, if_neg (by simp), if_neg h32])
    have e9 : decide ((xs.length : Int) + (ys.length : Int) ≤ 32) = true := decide_eq_true (by omega)
    go_enter Try.func33, Try.ntmps33
    go_wp2_with fail
    refine (ValidVisits_ok _ _ xs _ HA0.out HK0.out hn0).mono ?_
    rintro e w1 ⟨rfl, hb⟩
    have B1 := hid hb
    clear hb
    go_wp2_with fail
    refine (ValidVisits_ok _ _ ys _ (HA1.out.below B1.out) HK1.out hn1).mono ?_
    rintro e w2 ⟨rfl, hb⟩
    have B2 := hid (below_trans B1.out hb)
    clear hb
    have HS1 := hid (show ∀ w', Below w.heap.size w w' → SrcAt w' (some ⟨g1, 0, none⟩) (ys.map DVisit.cells).flatten from fun w' hb => (HA1.out.below hb).src (cellsVisit_len ys) (by omega))
    go_wp2_with (first
      | (go_at_call 96; refine (cloneVisit_ok _ _ xs _ (HA0.out.below B2.out) hn0 (fun h => by cases h)).mono ?_; rintro e w3 ⟨g5, rfl, ho5, hb5⟩; have B3 := hid (below_trans B2.out hb5); have O3 := hid (own_mono (B' := w.heap.size) ho5 B2.out.size); clear ho5 hb5)
      | (at_builtin; refine wpList_app_row (w0 := w) rfl (.tmp 16) (.tmp 17) 50 rfl w.heap.size 76 (.agg #[.int .i64 0, .string ⟨#[]⟩, .int .i64 0, .int .i64 0]) 4 40 Try.underlying50 infoVisit rfl (by decide) g5 xs.length xs.length _ rfl O3.out ⟨g1, 0, none⟩ ys.length c1 (ys.map DVisit.cells).flatten rfl (flatVisit_length ys) (HS1.out _ B3.out) (oneVisit ys) (by omega) B3.out.size B3.out ?_; intro g6 c6 w4 ho6 hlo6 hlt6 hb6; have B4 := hid hb6; have O4 := hid ho6; have L4 := hid hlo6; have M4 := hid hlt6; clear ho6 hb6 hlo6 hlt6)
      | (go_at_call 69; refine (few_ok _ _ _).mono ?_; rintro e w' ⟨rfl, rfl⟩))
    have hDD : ∀ z ∈ xs ++ ys, DayIn z := fun z hz => by
      rcases List.mem_append.1 hz with h | h
      · exact visits_day HV0.out z h
      · exact visits_day HV1.out z h
    have hOW : DatAt 76 4 DVisit.cells w.heap.size g6 c6 (xs.length + ys.length) (xs ++ ys) w4 := by
      have h9 := O4.out
      unfold DatAt
      rw [List.map_append, List.flatten_append]
      exact h9
    refine (sortV_ok DVisit.fDay DayIn w.heap.size g6 c6 (xs.length + ys.length) w4 (cmpV_ok _ _) M4.out (by omega) (xs ++ ys) hDD w4 (Chg.refl _ _ _) hOW).mono ?_
    rintro e w5 ⟨rfl, Z, hz, hch, hd⟩
    have HZ := hid hz
    have HCH := hid hch
    have HDA := hid hd
    clear hz hch hd hDD hOW
    go_wp2_with fail
    go_ret2
    have hm := mergeK_ok xs ys (visits_up HV0.out) (visits_up HV1.out)
    have e9 : Z = mergeK DVisit.fDay xs ys := by
      refine SameK.unique HZ.out.1 hm.1 ⟨?_, fun k => ?_⟩
      · rw [hm.2.1, HZ.out.2.1]
      · rw [hm.2.2 k, HZ.out.2.2 k]
    subst e9
    exact RetVisitC.own (n := xs.length + ys.length) HF.out (by rw [mergeK_length]) HDA.out (B4.out.trans ((HCH.out.wide L4.out (Nat.le_refl _)).below B4.out.size))


theorem implMv_ok (g0 : Nat) (xs : List DVisit) (g1 : Nat) (ys : List DVisit) (w : World) (hA0 : RowsAt w 4 (some ⟨g0, 0, none⟩) (xs.map DVisit.cells)) (hk0 : ∀ x ∈ xs, x.ok) (hn0 : xs.length ≤ 1048576) (hA1 : RowsAt w 4 (some ⟨g1, 0, none⟩) (ys.map DVisit.cells)) (hk1 : ∀ x ∈ ys, x.ok) (hn1 : ys.length ≤ 1048576) :
    Calls Try.prog 33 #[.slice (some ⟨g0, 0, none⟩) xs.length xs.length, .slice (some ⟨g1, 0, none⟩) ys.length ys.length] w (RetVisitC w (fMv xs ys)) := implMvC_ok g0 xs.length xs g1 ys.length ys w hA0 hk0 hn0 hA1 hk1 hn1

end Go.Proofs.Ytjeklbhdngkngaa
