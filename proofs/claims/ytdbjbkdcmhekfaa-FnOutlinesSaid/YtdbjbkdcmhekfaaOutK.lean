/- FnOutlines: the calls of the law, by what they answer on drawn outlines. -/
import Derived.Test.YtdbjbkdcmhekfaaOutJ
import Derived.Test.YtdbjbkdcmhekfaaOutG
namespace Go.Proofs.Ytdbjbkdcmhekfaa
open Go.RowKit
set_option linter.unusedVariables false

theorem corn_mem (xs : List DArc) (i : Nat) : ∀ k : Nat, (i : Int) ∈ cornT xs k ↔ i < k ∧ smAt xs i = false
  | 0 => by simp [cornT]
  | k + 1 => by
    have ih := corn_mem xs i k
    rw [cornT]
    cases h : smAt xs k with
    | true =>
      rw [if_pos rfl, ih]
      constructor
      · rintro ⟨h1, h2⟩
        exact ⟨by omega, h2⟩
      · rintro ⟨h1, h2⟩
        refine ⟨?_, h2⟩
        rcases Nat.lt_or_ge i k with h3 | h3
        · exact h3
        · have e : i = k := by omega
          subst e
          rw [h] at h2
          cases h2
    | false =>
      rw [if_neg (by simp), List.mem_append, ih, List.mem_singleton]
      constructor
      · rintro (⟨h1, h2⟩ | h1)
        · exact ⟨by omega, h2⟩
        · have e : i = k := by omega
          subst e
          exact ⟨by omega, h⟩
      · rintro ⟨h1, h2⟩
        rcases Nat.lt_or_ge i k with h3 | h3
        · exact .inl ⟨h3, h2⟩
        · right
          omega
theorem corn_has {xs : List DArc} {i : Nat} {s : Bool} (hi : i < xs.length) (hs : smAt xs i = s) : (corners xs).contains (i : Int) = !s := by
  have h := corn_mem xs i xs.length
  cases s with
  | true =>
    rw [Bool.not_true, ← Bool.not_eq_true, List.contains_iff_mem]
    intro h1
    have h2 := (h.1 h1).2
    rw [hs] at h2
    cases h2
  | false =>
    rw [Bool.not_false, List.contains_iff_mem]
    exact h.2 ⟨hi, hs⟩
/-- the difference of the law -/
def difN (x y : DArc) : Int := (x.cx - x.tx) * (y.cy - x.ty) - (x.cy - x.ty) * (y.cx - x.tx)
theorem dif_yes {x y : DArc} (h : smB x y = true) : difN x y = 0 := by
  unfold smB at h
  rw [beq_iff_eq] at h
  unfold difN
  omega
theorem dif_no {x y : DArc} (h : smB x y = false) : ¬ difN x y = 0 := by
  unfold smB at h
  rw [beq_eq_false_iff_ne] at h
  unfold difN
  omega
def RetIs (w : World) (cs : List Int) (n : Nat) (e : Ending) (w' : World) : Prop := ∃ A' c', e = .returned (.tuple #[.slice A' n c', .int .i64 0]) ∧ IntsAt w' A' cs ∧ Below w.heap.size w w'
theorem CornersOf_n (A : Option Addr) (c n m : Nat) (cs : List Int) (xs : List DArc) (w : World) (hA : RowsAt w 6 A (xs.map DArc.cells)) (hX : OutOk xs) (hn : xs.length = n) (hcs : corners xs = cs) (hm : cs.length = m) :
    Calls Try.prog 50 #[.slice A n c] w (RetIs w cs m) := by
  subst hn hcs hm
  refine (CornersOf_ok A c xs w hA hX).mono ?_
  rintro e w1 ⟨A', c', rfl, ho, hb⟩
  exact ⟨A', c', rfl, ints_own ho, hb⟩
theorem specCorners_n (A : Option Addr) (c n m : Nat) (cs : List Int) (xs : List DArc) (w : World) (hA : RowsAt w 6 A (xs.map DArc.cells)) (hX : OutOk xs) (hn : xs.length = n) (hcs : corners xs = cs) (hm : cs.length = m) :
    Calls Try.prog 62 #[.slice A n c] w (RetIs w cs m) := by
  subst hn hcs hm
  refine (specCorners_ok A c xs w hA hX).mono ?_
  rintro e w1 ⟨A', c', rfl, ho, hb⟩
  exact ⟨A', c', rfl, ints_own ho, hb⟩
theorem TwiceArea_n (A : Option Addr) (c n : Nat) (a : Int) (xs : List DArc) (w : World) (hA : RowsAt w 6 A (xs.map DArc.cells)) (hX : OutOk xs) (hn : xs.length = n) (ha : areaL xs = a) :
    Calls Try.prog 53 #[.slice A n c] w fun e w' => e = .returned (.tuple #[.int .i64 a, .int .i64 0]) ∧ Below w.heap.size w w' := by
  subst hn ha
  exact TwiceArea_ok A c xs w hA hX
theorem specArea_n (A : Option Addr) (c n : Nat) (a : Int) (xs : List DArc) (w : World) (hA : RowsAt w 6 A (xs.map DArc.cells)) (hX : OutOk xs) (hn : xs.length = n) (ha : areaL xs = a) :
    Calls Try.prog 63 #[.slice A n c] w fun e w' => e = .returned (.tuple #[.int .i64 a, .int .i64 0]) ∧ Below w.heap.size w w' := by
  subst hn ha
  exact specArea_ok A c xs w hA hX
theorem implSmooth_n (A : Option Addr) (c n : Nat) (s : Bool) (xs : List DArc) (w : World) (hA : RowsAt w 6 A (xs.map DArc.cells)) (hX : OutOk xs) (hn : xs.length = n) (hs : (corners xs).isEmpty = s) :
    Calls Try.prog 55 #[.slice A n c] w fun e w' => e = .returned (.bool s) ∧ Below w.heap.size w w' := by
  subst hn
  exact implSmooth_ok A c xs w hA hX s hs
theorem specSmooth_n (A : Option Addr) (c n : Nat) (s : Bool) (xs : List DArc) (w : World) (hA : RowsAt w 6 A (xs.map DArc.cells)) (hX : OutOk xs) (hn : xs.length = n) (hs : (corners xs).isEmpty = s) :
    Calls Try.prog 54 #[.slice A n c] w fun e w' => e = .returned (.bool s) ∧ Below w.heap.size w w' := by
  subst hn
  exact specSmooth_ok A c xs w hA hX s hs
/-- a row of arcs, by what it reads as -/
def RetRow (w : World) (l : List DArc) (n : Nat) (e : Ending) (w' : World) : Prop := ∃ g cc, e = .returned (.tuple #[.slice (some ⟨g, 0, none⟩) n cc, .int .i64 0]) ∧ RowsAt w' 6 (some ⟨g, 0, none⟩) (l.map DArc.cells) ∧ Below w.heap.size w w'
theorem RetArcs.row {w : World} {l : List DArc} {n : Nat} {e : Ending} {w' : World} (hl : l.length = n) (h : RetArcs w l n e w') : RetRow w l n e w' := by
  obtain ⟨g, cc, he, ho, hb⟩ := h
  exact ⟨g, cc, he, arcV_rows ho hl, hb⟩
theorem Move_n (A : Option Addr) (c n : Nat) (xs : List DArc) (w : World) (hA : RowsAt w 6 A (xs.map DArc.cells)) (hX : OutOk xs) (hn : xs.length = n) (p q : Int) (hs : ∀ x ∈ xs, ArcS x) (hp : -1500 ≤ p ∧ p ≤ 1500) (hq : -1500 ≤ q ∧ q ≤ 1500) :
    Calls Try.prog 51 #[.slice A n c, .int .i64 p, .int .i64 q] w (RetRow w (movL p q xs) n) := by
  subst hn
  exact (MoveOutline_ok A c xs w hA hX p q hs hp hq).mono fun e w' h => RetArcs.row (movL_len p q xs) h
theorem Mirror_n (A : Option Addr) (c n : Nat) (xs : List DArc) (w : World) (hA : RowsAt w 6 A (xs.map DArc.cells)) (hX : OutOk xs) (hn : xs.length = n) :
    Calls Try.prog 52 #[.slice A n c] w (RetRow w (mirL xs) n) := by
  subst hn
  exact (MirrorOutline_ok A c xs w hA hX).mono fun e w' h => RetArcs.row (mirL_len xs) h
theorem specMirror_n (A : Option Addr) (c n : Nat) (xs ys : List DArc) (w : World) (hA : RowsAt w 6 A (xs.map DArc.cells)) (hX : OutOk xs) (hn : xs.length = n) (hy : mirL xs = ys) :
    Calls Try.prog 61 #[.slice A n c] w (RetRow w ys n) := by
  subst hn hy
  exact (specMirror_ok A c xs w hA hX).mono fun e w' h => RetArcs.row (mirL_len xs) h
theorem Oval_n (k m : Int) (w : World) (hk : 0 ≤ k ∧ k ≤ 900) (hm : 1 ≤ m ∧ m ≤ 900) :
    Calls Try.prog 48 #[.int .i64 k, .int .i64 m] w (RetRow w (ovalL k m) 4) :=
  (OvalOutline_ok k m w hk hm).mono fun e w' h => RetArcs.row rfl h
def PostR (w : World) (e : Ending) (w' : World) : Prop := ∃ (xs : List DArc) (n g cc : Nat), xs.length = n ∧ e = .returned (.slice (some ⟨g, 0, none⟩) n cc) ∧ DrwO xs ∧ RowsAt w' 6 (some ⟨g, 0, none⟩) (xs.map DArc.cells) ∧ Below w.heap.size w w'
theorem outline_n (A : Option Addr) (c : Nat) (ns : List Int) (w : World) (hA : BytesAt w A ns) (hB : ByteIn ns) (hl : ns.length ≤ 1048576) :
    Calls Try.prog 47 #[.slice A ns.length c] w (PostR w) := by
  refine (r8Outline_ok A c ns w hA hB hl).mono ?_
  rintro e w' ⟨xs, n, g, cc, hn, he, hd, ho, hb⟩
  exact ⟨xs, n, g, cc, hn, he, hd, arcV_rows ho hn, hb⟩
theorem radius_n (x : DArc) (r : Int) (w : World) (hx : ArcOk x) (hr : radN x = r) :
    Calls Try.prog 58 #[.agg #[.int .i64 x.cx, .int .i64 x.cy, .int .i64 x.fx, .int .i64 x.fy, .int .i64 x.tx, .int .i64 x.ty]] w fun e w' => e = .returned (.tuple #[.int .i64 r, .int .i64 0]) ∧ Below w.heap.size w w' := by
  subst hr
  exact radius_ok x w hx
theorem radiusS_n (x : DArc) (r : Int) (w : World) (hx : ArcOk x) (hr : radN x = r) :
    Calls Try.prog 59 #[.agg #[.int .i64 x.cx, .int .i64 x.cy, .int .i64 x.fx, .int .i64 x.fy, .int .i64 x.tx, .int .i64 x.ty]] w fun e w' => e = .returned (.tuple #[.int .i64 r, .int .i64 0]) ∧ Below w.heap.size w w' := by
  subst hr
  exact radiusS_ok x w hx
theorem joint_n (x y : DArc) (s : Bool) (w : World) (hx : ArcOk x) (hy : ArcOk y) (h1 : y.fx = x.tx) (h2 : y.fy = x.ty) (hs : smB x y = s) :
    Calls Try.prog 57 #[.agg #[.int .i64 x.cx, .int .i64 x.cy, .int .i64 x.fx, .int .i64 x.fy, .int .i64 x.tx, .int .i64 x.ty], .agg #[.int .i64 y.cx, .int .i64 y.cy, .int .i64 y.fx, .int .i64 y.fy, .int .i64 y.tx, .int .i64 y.ty]] w fun e w' => e = .returned (.bool s) ∧ Below w.heap.size w w' := by
  subst hs
  exact joint_ok x y w hx hy h1 h2
def RetBoxN (w : World) (xs : List DArc) (e : Ending) (w' : World) : Prop := ∃ g, e = .returned (.tuple #[.slice (some ⟨g, 0, none⟩) 4 4, .int .i64 0]) ∧ ∃ p q r s, IntsAt w' (some ⟨g, 0, none⟩) [p, q, r, s] ∧ (∀ (j : Nat) (x : DArc), xs[j]? = some x → p ≤ x.fx ∧ q ≤ x.fy ∧ x.fx ≤ r ∧ x.fy ≤ s) ∧ Below w.heap.size w w'
theorem Box_n (A : Option Addr) (c n : Nat) (xs : List DArc) (w : World) (hA : RowsAt w 6 A (xs.map DArc.cells)) (hX : OutOk xs) (hn : xs.length = n) :
    Calls Try.prog 65 #[.slice A n c] w (RetBoxN w xs) := by
  subst hn
  refine (BoxOf_ok A c xs w hA hX).mono ?_
  rintro e w' ⟨⟨g, he, p, q, r, s, ho, hin⟩, hb⟩
  exact ⟨g, he, p, q, r, s, ints_own (ns := [p, q, r, s]) ho, fun j x hx => hin j x (List.getElem?_eq_some_iff.1 hx).1 hx, hb⟩
def RetSh (w : World) (xs : List DArc) (e : Ending) (w' : World) : Prop := ∃ (b : Nat) (y : DArc), e = .returned (.tuple #[.int .i64 (b : Int), .int .i64 0]) ∧ xs[b]? = some y ∧ (∀ (j : Nat) (x : DArc), xs[j]? = some x → radN y ≤ radN x) ∧ Below w.heap.size w w'
theorem Sharp_n (A : Option Addr) (c n : Nat) (xs : List DArc) (w : World) (hA : RowsAt w 6 A (xs.map DArc.cells)) (hX : OutOk xs) (hn : xs.length = n) :
    Calls Try.prog 66 #[.slice A n c] w (RetSh w xs) := by
  subst hn
  refine (SharpestOf_ok A c xs w hA hX).mono ?_
  rintro e w' ⟨⟨b, he, y, hy, hm⟩, hb⟩
  exact ⟨b, y, he, hy, hm, hb⟩
theorem same_n (A B : Option Addr) (c d m : Nat) (ns : List Int) (w : World) (hA : IntsAt w A ns) (hB : IntsAt w B ns) (hm : ns.length = m) (hn : m ≤ 1048576) :
    Calls Try.prog 64 #[.slice A m c, .slice B m d] w fun e w' => e = .returned (.bool true) ∧ Below w.heap.size w w' := by
  subst hm
  exact r8Same_ok A B c d ns w hA hB hn
theorem outOk_n {xs : List DArc} {n : Nat} (h : OutOk xs) (hn : xs.length = n) : 2 ≤ n ∧ n ≤ 16 := by
  subst hn
  exact ⟨h.n2, h.n16⟩
theorem corners_len (xs : List DArc) : (corners xs).length ≤ xs.length := cornT_len xs xs.length
theorem oval_empty (k m : Int) : (corners (ovalL k m)).isEmpty = true := by rw [oval_corners]; rfl
theorem empty_len {l : List Int} {m : Nat} (h : l.length = m) : l.isEmpty = decide ((m : Int) = 0) := by
  subst h
  cases l with
  | nil => rfl
  | cons a l => rw [List.isEmpty_cons, List.length_cons]; exact (decide_eq_false (by omega)).symm
theorem ArcAt.rows {w : World} {g : Nat} {xs : List DArc} {k : Nat} {x : DArc} (hA : RowsAt w 6 (some ⟨g, 0, none⟩) (xs.map DArc.cells)) (hx : xs[k]? = some x) : ArcAt w g (k * 6) x := by
  obtain ⟨ab, ao, hae, hAt⟩ := ArcAt.of_rows hA hx
  injection hae with hae
  injection hae with ha1 ha2
  subst ha1 ha2
  rw [Nat.zero_add] at hAt
  exact hAt
theorem mir_at {xs : List DArc} {n k : Nat} {x : DArc} (hn : xs.length = n) (hk : k < n) (hx : xs[k]? = some x) : (mirL xs)[n - 1 - k]? = some (mirA x) := by
  subst hn
  exact mirL_of hx
theorem mov_at {xs : List DArc} {p q : Int} {k : Nat} {x : DArc} (hx : xs[k]? = some x) : (movL p q xs)[k]? = some (movA p q x) := by
  unfold movL
  rw [List.getElem?_map, hx]
  rfl

end Go.Proofs.Ytdbjbkdcmhekfaa
