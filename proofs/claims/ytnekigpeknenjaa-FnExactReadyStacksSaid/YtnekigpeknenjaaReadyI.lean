/- ReadyStacks and its reference. -/
import Derived.Test.YtnekigpeknenjaaReady
namespace Go.Proofs.Ytnekigpeknenjaa
open Go.RowKit
set_option linter.unusedVariables false

def readyB (h d g : Int) (x : DStack) : Bool := inB (d - x.fSince) 0 4000 && decide (afterR (evenR h) x.fThick (d - x.fSince).toNat x.fMoisture ≤ g)
/-- the ready ones among the first k -/
def readyTo (h d g : Int) (xs : List DStack) (k : Nat) : List Int := ((List.range k).filter fun i => match xs[i]? with | some x => readyB h d g x | none => false).map fun (i : Nat) => (i : Int)
theorem readyTo_yes {h d g : Int} {xs : List DStack} {k : Nat} (hk : k < xs.length) (hr : readyB h d g xs[k] = true) : readyTo h d g xs (k + 1) = readyTo h d g xs k ++ [(k : Int)] := by
  unfold readyTo
  rw [List.range_succ, List.filter_append, List.map_append]
  simp [List.getElem?_eq_getElem hk, hr]
theorem readyTo_no {h d g : Int} {xs : List DStack} {k : Nat} (hk : k < xs.length) (hr : readyB h d g xs[k] = false) : readyTo h d g xs (k + 1) = readyTo h d g xs k := by
  unfold readyTo
  rw [List.range_succ, List.filter_append, List.map_append]
  simp [List.getElem?_eq_getElem hk, hr]
theorem readyTo_length (h d g : Int) (xs : List DStack) (k : Nat) : (readyTo h d g xs k).length ≤ k := by
  unfold readyTo
  rw [List.length_map]
  have := List.length_filter_le (fun i => match xs[i]? with | some x => readyB h d g x | none => false) (List.range k)
  simpa using this
noncomputable def fReady (xs : List DStack) (h d g : Int) : List Int × Int :=
  if stacksB xs = false then ([], 1) else if (inB h 0 1000 && (inB d 0 36524 && inB g 0 1000)) = false then ([], 2) else (readyTo h d g xs xs.length, 0)
theorem fReady_length (xs : List DStack) (h d g : Int) : (fReady xs h d g).1.length ≤ xs.length := by
  unfold fReady
  split
  · simp
  · split
    · simp
    · exact readyTo_length _ _ _ _ _

/-- a list of numbers in new memory and a code -/
def RetIC (w : World) (r : List Int × Int) (e : Ending) (w' : World) : Prop :=
  ∃ A c, e = .returned (.tuple #[.slice A r.1.length c, .int .i64 r.2]) ∧ w'.ownsRow w.heap.size 2 1 (.slice A r.1.length c) r.1.length (r.1.map (Value.int .i64)) ∧ Below w.heap.size w w'
theorem RetIC.nil {w w' : World} {r : List Int × Int} {c : Int} (h : r = ([], c)) (hb : Below w.heap.size w w') : RetIC w r (.returned (.tuple #[.slice none 0 0, .int .i64 c])) w' := by
  subst h
  exact ⟨none, 0, rfl, World.ownsRow_nil _ _ _ _, hb⟩
theorem RetIC.own {w w' : World} {r : List Int × Int} {c : Int} {v : Value} {l : List Int} (h : r = (l, c)) (ho : w'.ownsRow w.heap.size 2 1 v l.length (l.map (Value.int .i64))) (hb : Below w.heap.size w w') : RetIC w r (.returned (.tuple #[v, .int .i64 c])) w' := by
  subst h
  obtain ⟨h1, h2⟩ := ho
  rcases h2 with ⟨rfl, h0⟩ | ⟨g, cap, cur, rfl, r⟩
  · rw [h0] at h1
    have : l = [] := by simpa using h0
    subst this
    exact ⟨none, 0, rfl, World.ownsRow_nil _ _ _ _, hb⟩
  · exact ⟨_, _, rfl, ⟨h1, .inr ⟨g, cap, cur, rfl, r⟩⟩, hb⟩


set_option maxHeartbeats 1600000 in
set_option maxRecDepth 100000 in
theorem implReady_ok (A : Option Addr) (c : Nat) (xs : List DStack) (h d g : Int) (w : World) (hA : RowsAt w 4 A (xs.map DStack.cells)) (hok : ∀ x ∈ xs, x.ok) (hn : xs.length ≤ 1048576) (hr : (-9223372036854775808 ≤ d ∧ d ≤ 9223372036854775807)) :
    Calls Try.prog 33 #[.slice A xs.length c, .int .i64 h, .int .i64 d, .int .i64 g] w (RetIC w (fReady xs h d g)) := by
  have HA := hid hA
  have HK := hid hok
  clear hA hok
  cases c1 : stacksB xs
  · have HF := hid (show fReady xs h d g = ([], 1) by unfold fReady; rw [if_pos c1])
    go_enter Try.func33, Try.ntmps33
    go_wp2_with fail
    refine (ValidStacks_ok A c xs _ HA.out HK.out hn).mono ?_
    rintro e w1 ⟨rfl, hb⟩
    go_wp2_with fail
    go_ret2
    exact RetIC.nil HF.out hb
  cases c2 : inB h 0 1000 && (inB d 0 36524 && inB g 0 1000)
  · have HF := hid (show fReady xs h d g = ([], 2) by unfold fReady; rw [if_neg (by rw [c1]; exact fun h => by cases h), if_pos c2])
    have c2' : inB h 0 1000 = false ∨ (inB h 0 1000 = true ∧ inB d 0 36524 = false) ∨ (inB h 0 1000 = true ∧ inB d 0 36524 = true ∧ inB g 0 1000 = false) := by
      cases a : inB h 0 1000 <;> cases b : inB d 0 36524 <;> cases e : inB g 0 1000 <;> simp [a, b, e] at c2 ⊢
    clear c2
    rcases c2' with a | ⟨a, b⟩ | ⟨a, b, e⟩
    all_goals
      go_enter Try.func33, Try.ntmps33
      go_wp2_with fail
      refine (ValidStacks_ok A c xs _ HA.out HK.out hn).mono ?_
      rintro e w1 ⟨rfl, hb⟩
      go_wp2_with (first | (go_at_call 110; refine (isPart_ok _ _).mono ?_; rintro e w' ⟨rfl, rfl⟩) | (go_at_call 111; refine (isDay_ok _ _).mono ?_; rintro e w' ⟨rfl, rfl⟩))
      go_ret2
      exact RetIC.nil HF.out hb
  have HF := hid (show fReady xs h d g = (readyTo h d g xs xs.length, 0) by unfold fReady; rw [if_neg (by rw [c1]; exact fun h => by cases h), if_neg (by rw [c2]; exact fun h => by cases h)])
  have c3 := c2
  simp only [Bool.and_eq_true] at c3
  obtain ⟨a1, a2, a3⟩ := c3
  have b1 := inB_iff.1 a1
  have b2 := inB_iff.1 a2
  have HB := hid (fun k (hk : k < xs.length) => stackB_bd (stacksB_at c1 hk))
  clear c2
  go_enter Try.func33, Try.ntmps33
  go_wp2_with fail
  refine (ValidStacks_ok A c xs _ HA.out HK.out hn).mono ?_
  rintro e w1 ⟨rfl, hb1⟩
  go_wp2_with (first | (go_at_call 110; refine (isPart_ok _ _).mono ?_; rintro e w' ⟨rfl, rfl⟩) | (go_at_call 111; refine (isDay_ok _ _).mono ?_; rintro e w' ⟨rfl, rfl⟩))
  clear a1 a2 a3
  have B1 := hid hb1
  clear hb1
  go_loopw [10, 32] (fun v i wr => ∃ k : Nat, k ≤ xs.length ∧ i = .int .i64 k ∧ wr.ownsRow w.heap.size 2 1 v (readyTo h d g xs k).length ((readyTo h d g xs k).map (Value.int .i64)) ∧ Below w.heap.size w wr) (fun _ i _ => xs.length - (intOf i).toNat)
  case atStart => exact ⟨0, Nat.zero_le _, rfl, World.ownsRow_lit _ _ 0 B1.out.size (by unfold maxLen; omega) rfl, B1.out.alloc B1.out.size _⟩
  case round =>
    obtain ⟨k, hk, rfl, hown, hbel⟩ := hrel
    by_cases hkl : k < xs.length
    · have hne : xs.map DStack.cells ≠ [] := by intro e; rw [List.map_eq_nil_iff] at e; rw [e] at hkl; exact absurd hkl (by simp)
      obtain ⟨b, o, rfl, hlt, hc⟩ := (HA.out.below hbel) hne
      have HC := hid hc
      have hc0 : wr.cell? ⟨b, o + k * 4, none⟩ = some (.string xs[k].fId) := HC.out k _ (by rw [List.getElem?_map, List.getElem?_eq_getElem hkl]; rfl) 0 _ rfl
      have hc1 : wr.cell? ⟨b, o + k * 4 + 1, none⟩ = some (.int .i64 xs[k].fMoisture) := HC.out k _ (by rw [List.getElem?_map, List.getElem?_eq_getElem hkl]; rfl) 1 _ rfl
      have hc2 : wr.cell? ⟨b, o + k * 4 + 2, none⟩ = some (.int .i64 xs[k].fThick) := HC.out k _ (by rw [List.getElem?_map, List.getElem?_eq_getElem hkl]; rfl) 2 _ rfl
      have hc3 : wr.cell? ⟨b, o + k * 4 + 3, none⟩ = some (.int .i64 xs[k].fSince) := HC.out k _ (by rw [List.getElem?_map, List.getElem?_eq_getElem hkl]; rfl) 3 _ rfl
      have q0 : (0 : Int) ≤ (k : Int) := by omega
      have q1 : (k : Int) < xs.length := by omega
      obtain ⟨m0, m1, t0, t1, s0, s1⟩ := HB.out k hkl
      have hw : IntKind.i64.wrap (d - xs[k].fSince) = d - xs[k].fSince := IntWalk.i64_in _ (by omega)
      have hrl := readyTo_length h d g xs k
      have EA := hid (hown.alloc (.cells #[.string xs[k].fId, .int .i64 xs[k].fMoisture, .int .i64 xs[k].fThick, .int .i64 xs[k].fSince] 132))
      have EB := hid (hbel.alloc hbel.size (.cells #[.string xs[k].fId, .int .i64 xs[k].fMoisture, .int .i64 xs[k].fThick, .int .i64 xs[k].fSince] 132))
      have NC := hid (HasC.new wr [.string xs[k].fId, .int .i64 xs[k].fMoisture, .int .i64 xs[k].fThick, .int .i64 xs[k].fSince] 132)
      clear hc hne hown hbel
      cases d1 : inB (d - xs[k].fSince) 0 4000
      · have HT := hid (readyTo_no (h := h) (d := d) (g := g) hkl (by simp [readyB, d1]))
        go_wp2_with (go_at_call 112; refine (isDry_ok _ _).mono ?_; rintro e w' ⟨rfl, rfl⟩)
        go_roundw
        case rel => exact ⟨k + 1, by omega, by go_num, by rw [HT.out]; exact EA.out, EB.out⟩
        case measure => simp [intOf]; omega
      · have d2 := inB_iff.1 d1
        have hD := hid (show ((d - xs[k].fSince).toNat : Int) = d - xs[k].fSince by omega)
        have HAF := hid (after_ok xs[k] h (d - xs[k].fSince).toNat)
        by_cases d3 : afterR (evenR h) xs[k].fThick (d - xs[k].fSince).toNat xs[k].fMoisture ≤ g
        · have HT := hid (readyTo_yes (h := h) (d := d) (g := g) hkl (by simp [readyB, d1, d3]))
          go_wp2_with (go_at_call 112; refine (isDry_ok _ _).mono ?_; rintro e w' ⟨rfl, rfl⟩)
          refine (hD.out ▸ HAF.out _ ⟨m0, m1⟩ ⟨t0, t1⟩ b1 (by omega)).mono ?_
          rintro e w1 ⟨rfl, hb⟩
          have hown := own_below EA.out hb
          have hbel := below_up EB.out (EB.out.size) hb
          clear hb
          go_wp2_with (at_builtin; refine wpList_app rfl _ _ 23 rfl w.heap.size 2 (.int .i64 0) 1 8 Try.underlying23 infoI rfl (by decide) _ _ _ rfl hown #[.int .i64 (k : Int)] 1 1 rfl rfl (by simp [Value.oneCell']) (by omega) hbel.size hbel ?_; intro v1 w1 hown1 hbel1 hz1 _)
          go_roundw
          case rel => exact ⟨k + 1, by omega, by go_num, by rw [HT.out, List.length_append, List.map_append]; exact hown1, hbel1⟩
          case measure => simp [intOf]; omega
        · have HT := hid (readyTo_no (h := h) (d := d) (g := g) hkl (by simp [readyB, d1, d3]))
          go_wp2_with (go_at_call 112; refine (isDry_ok _ _).mono ?_; rintro e w' ⟨rfl, rfl⟩)
          refine (hD.out ▸ HAF.out _ ⟨m0, m1⟩ ⟨t0, t1⟩ b1 (by omega)).mono ?_
          rintro e w1 ⟨rfl, hb⟩
          have hown := own_below EA.out hb
          have hbel := below_up EB.out (EB.out.size) hb
          clear hb
          go_wp2_with fail
          go_roundw
          case rel => exact ⟨k + 1, by omega, by go_num, by rw [HT.out]; exact hown, hbel⟩
          case measure => simp [intOf]; omega
    · have hk2 : k = xs.length := by omega
      subst hk2
      have HO := hid hown
      clear hown
      go_wp2_with fail
      go_ret2
      exact RetIC.own HF.out HO.out hbel

end Go.Proofs.Ytnekigpeknenjaa
