/- Texts in ascending order, each one once: what sorting and compacting leave is what putting them in one by one leaves. Pure. -/
import Derived.Lib.SlicesCompact
import Derived.Lib.RowBridge
namespace Go.Proofs.YtmfadjdpbobfhaaDoor
set_option linter.unusedVariables false

abbrev Str := List UInt8
theorem str_lt_or_eq {a b : Str} (h : a ≤ b) : a < b ∨ a = b := by
  by_cases c : a < b
  · exact .inl c
  · exact .inr (List.le_antisymm h (List.not_lt.1 c))
/-- strictly ascending -/
def Up (l : List Str) : Prop := l.Pairwise (· < ·)
theorem up_nil : Up [] := List.Pairwise.nil
theorem up_unique : ∀ {a b : List Str}, Up a → Up b → (∀ x, x ∈ a ↔ x ∈ b) → a = b
  | [], [], _, _, _ => rfl
  | [], y :: b, _, _, h => absurd ((h y).2 List.mem_cons_self) (by simp)
  | x :: a, [], _, _, h => absurd ((h x).1 List.mem_cons_self) (by simp)
  | x :: a, y :: b, ha, hb, h => by
    obtain ⟨ha1, ha2⟩ := List.pairwise_cons.1 ha
    obtain ⟨hb1, hb2⟩ := List.pairwise_cons.1 hb
    have e : x = y := by
      rcases List.mem_cons.1 ((h x).1 List.mem_cons_self) with e | h1
      · exact e
      · rcases List.mem_cons.1 ((h y).2 List.mem_cons_self) with e | h2
        · exact e.symm
        · exact absurd (List.lt_trans (hb1 x h1) (ha1 y h2)) (List.lt_irrefl _)
    subst e
    have e2 : a = b := up_unique ha2 hb2 fun z => ⟨fun hz => by
        rcases List.mem_cons.1 ((h z).1 (List.mem_cons_of_mem _ hz)) with e | h1
        · subst e; exact absurd (ha1 _ hz) (List.lt_irrefl _)
        · exact h1, fun hz => by
        rcases List.mem_cons.1 ((h z).2 (List.mem_cons_of_mem _ hz)) with e | h1
        · subst e; exact absurd (hb1 _ hz) (List.lt_irrefl _)
        · exact h1⟩
    rw [e2]
/-- puts a text in, once -/
def putS : List Str → Str → List Str
  | [], x => [x]
  | y :: l, x => if x < y then x :: y :: l else if x = y then y :: l else y :: putS l x
theorem putS_mem : ∀ (l : List Str) (x z : Str), z ∈ putS l x ↔ z = x ∨ z ∈ l
  | [], x, z => by simp [putS]
  | y :: l, x, z => by
    simp only [putS]
    split
    · simp
    · split
      · rename_i h; subst h; simp
      · simp only [List.mem_cons, putS_mem l x z]
        constructor
        · rintro (h | h | h)
          · exact .inr (.inl h)
          · exact .inl h
          · exact .inr (.inr h)
        · rintro (h | h | h)
          · exact .inr (.inl h)
          · exact .inl h
          · exact .inr (.inr h)
theorem putS_up : ∀ {l : List Str} (x : Str), Up l → Up (putS l x)
  | [], x, _ => by simp [putS, Up]
  | y :: l, x, h => by
    obtain ⟨h1, h2⟩ := List.pairwise_cons.1 h
    simp only [putS]
    split
    · rename_i c
      refine List.pairwise_cons.2 ⟨fun z hz => ?_, h⟩
      rcases List.mem_cons.1 hz with e | hz
      · subst e; exact c
      · exact List.lt_trans c (h1 z hz)
    · split
      · exact h
      · rename_i c1 c2
        refine List.pairwise_cons.2 ⟨fun z hz => ?_, putS_up x h2⟩
        rcases (putS_mem l x z).1 hz with e | hz
        · subst e
          exact (str_lt_or_eq (List.not_lt.1 c1)).resolve_right fun e => c2 e.symm
        · exact h1 z hz
theorem putS_has {l : List Str} {x : Str} (h : Up l) (hx : x ∈ l) : putS l x = l :=
  up_unique (putS_up x h) h fun z => by
    rw [putS_mem]
    exact ⟨fun h => h.elim (fun e => e ▸ hx) id, .inr⟩
theorem putS_at {a b : List Str} {x : Str} (h : Up (a ++ b)) (ha : ∀ z ∈ a, z < x) (hb : ∀ z ∈ b, x < z) : putS (a ++ b) x = a ++ x :: b := by
  refine up_unique (putS_up x h) ?_ fun z => ?_
  · obtain ⟨h1, h2, h3⟩ := List.pairwise_append.1 h
    refine List.pairwise_append.2 ⟨h1, List.pairwise_cons.2 ⟨hb, h2⟩, fun u hu v hv => ?_⟩
    rcases List.mem_cons.1 hv with e | hv
    · subst e; exact ha u hu
    · exact h3 u hu v hv
  · rw [putS_mem]
    simp only [List.mem_append, List.mem_cons]
    constructor
    · rintro (h | h | h)
      · exact .inr (.inl h)
      · exact .inl h
      · exact .inr (.inr h)
    · rintro (h | h | h)
      · exact .inr (.inl h)
      · exact .inl h
      · exact .inr (.inr h)
theorem putS_len : ∀ (l : List Str) (x : Str), (putS l x).length ≤ l.length + 1
  | [], x => by simp [putS]
  | y :: l, x => by
    have := putS_len l x
    simp only [putS]
    split
    · simp
    · split <;> simp <;> omega
/-- all texts of a list in ascending order, each one once -/
def setOf (ns : List Str) : List Str := ns.foldl putS []
theorem foldl_up : ∀ (ns : List Str) {l : List Str}, Up l → Up (ns.foldl putS l)
  | [], _, h => h
  | x :: ns, _, h => foldl_up ns (putS_up x h)
theorem foldl_mem : ∀ (ns l : List Str) (z : Str), z ∈ ns.foldl putS l ↔ z ∈ ns ∨ z ∈ l
  | [], l, z => by simp
  | x :: ns, l, z => by
    rw [List.foldl_cons, foldl_mem ns, putS_mem, List.mem_cons]
    constructor
    · rintro (h | h | h)
      · exact .inl (.inr h)
      · exact .inl (.inl h)
      · exact .inr h
    · rintro ((h | h) | h)
      · exact .inr (.inl h)
      · exact .inl h
      · exact .inr (.inr h)
theorem setOf_up (ns : List Str) : Up (setOf ns) := foldl_up ns up_nil
theorem setOf_mem (ns : List Str) (z : Str) : z ∈ setOf ns ↔ z ∈ ns := by simp [setOf, foldl_mem]
theorem setOf_snoc (ns : List Str) (x : Str) : setOf (ns ++ [x]) = putS (setOf ns) x := by simp [setOf]
theorem setOf_nil : setOf [] = [] := rfl
theorem setOf_len (ns : List Str) : (setOf ns).length ≤ ns.length := by
  have : ∀ (ns l : List Str), (ns.foldl putS l).length ≤ ns.length + l.length := by
    intro ns
    induction ns with
    | nil => intro l; simp
    | cons x ns ih =>
      intro l
      have h1 := ih (putS l x)
      have h2 := putS_len l x
      simp only [List.foldl_cons, List.length_cons]
      omega
  have := this ns []
  simpa [setOf] using this

theorem sorted_get {d : List Str} (h : d.Pairwise (· ≤ ·)) {i j : Nat} (hij : i < j) (hj : j < d.length) : d.toArray[i]! ≤ d.toArray[j]! := by
  rw [getElem!_pos d.toArray i (by simp; omega), getElem!_pos d.toArray j (by simpa using hj)]
  exact List.pairwise_iff_getElem.1 h i j (by omega) hj hij
theorem compact_up {d : List Str} (h : d.Pairwise (· ≤ ·)) : Up (Lib.compact d) := by
  unfold Lib.compact Lib.compactUpTo Up
  rw [List.pairwise_map, List.pairwise_filter]
  refine List.Pairwise.imp_of_mem ?_ (List.pairwise_lt_range (n := d.length))
  intro i j hi hj hij ki kj
  have hj := List.mem_range.1 hj
  have kj : j = 0 ∨ d.toArray[j]! ≠ d.toArray[j - 1]! := of_decide_eq_true kj
  have kj := kj.resolve_left (by omega)
  have h1 : d.toArray[j - 1]! ≤ d.toArray[j]! := sorted_get h (by omega) hj
  have h2 : d.toArray[j - 1]! < d.toArray[j]! := (str_lt_or_eq h1).resolve_right fun e => kj e.symm
  rcases Nat.lt_or_ge i (j - 1) with c | c
  · exact List.lt_of_le_of_lt (sorted_get h c (by omega)) h2
  · have : i = j - 1 := by omega
    rw [this]
    exact h2
theorem compact_mem (d : List Str) (x : Str) : x ∈ Lib.compact d ↔ x ∈ d := by
  constructor
  · intro h
    unfold Lib.compact Lib.compactUpTo at h
    obtain ⟨i, hi, rfl⟩ := List.mem_map.1 h
    have hi' : i < d.length := List.mem_range.1 (List.mem_filter.1 hi).1
    rw [getElem!_pos d.toArray i (by simpa using hi')]
    exact List.getElem_mem hi'
  · intro h
    have key : ∀ i, i < d.length → d.toArray[i]! ∈ Lib.compact d := by
      intro i
      induction i with
      | zero =>
        intro hi
        exact List.mem_map.2 ⟨0, List.mem_filter.2 ⟨List.mem_range.2 hi, by simp [Lib.keeps]⟩, rfl⟩
      | succ i ih =>
        intro hi
        by_cases e : d.toArray[i + 1]! = d.toArray[i]!
        · rw [e]; exact ih (by omega)
        · exact List.mem_map.2 ⟨i + 1, List.mem_filter.2 ⟨List.mem_range.2 hi, Lib.keeps_pos (by simpa using e)⟩, rfl⟩
    obtain ⟨i, hi, rfl⟩ := List.mem_iff_getElem.1 h
    have := key i hi
    rwa [getElem!_pos d.toArray i (by simpa using hi)] at this
/-- sorting and compacting -/
theorem sorted_set (ns : List Str) : Lib.compact (ns.mergeSort fun x y => decide (x ≤ y)) = setOf ns := by
  refine up_unique (compact_up ?_) (setOf_up ns) fun z => ?_
  · have h := List.pairwise_mergeSort (le := fun x y : Str => decide (x ≤ y)) (fun a b c h1 h2 => by simp only [decide_eq_true_eq] at *; exact List.le_trans h1 h2) (fun a b => by simp only [Bool.or_eq_true, decide_eq_true_eq]; exact List.le_total a b) ns
    exact h.imp fun h => by simpa using h
  · rw [compact_mem, setOf_mem, List.mem_mergeSort]

end Go.Proofs.YtmfadjdpbobfhaaDoor
