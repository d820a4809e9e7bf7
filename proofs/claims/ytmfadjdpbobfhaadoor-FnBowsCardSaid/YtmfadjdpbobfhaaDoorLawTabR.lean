/- What the read laws' tied cards need: the two error variables, and worlds that hold all that is laid. -/
import Derived.Test.YtmfadjdpbobfhaaDoorLawTab
import Derived.Test.YtmfadjdpbobfhaaDoorReadM
namespace Go.Proofs.YtmfadjdpbobfhaaDoor
open Go.Joins Go.ChangeShapes Go.WideShapes Go.ChangeAt Go.RowKit Go.Deep

theorem gRng : Tryd.prog.globalNamed "strconv.ErrRange" = some 3 := by kernel_rfl
theorem gSyn : Tryd.prog.globalNamed "strconv.ErrSyntax" = some 2 := by kernel_rfl
theorem tRng : (Tryd.prog.globals[3]?).map (·.type) = some 144 := by kernel_rfl
theorem tSyn : (Tryd.prog.globals[2]?).map (·.type) = some 144 := by kernel_rfl
theorem starE : "*" ++ "errors.errorString" = "*errors.errorString" := by decide
theorem rowES (u : TypeId) (h : Tryd.prog.typeName? 3 u = some "*errors.errorString") : u = 217 :=
  typeName_ptr_named (nm := "errors.errorString") (by rw [starE]; kernel_rfl) (by kernel_rfl) (by decide) u (by rw [starE]; exact h)
theorem cellsES : Tryd.prog.cellsOf 219 = 1 := by kernel_rfl
theorem cellsStr1 : Tryd.prog.cellsOf 9 = 1 := by kernel_rfl
theorem rd5_of {W : World} (h : laidMetH Tryd.prog [("math/bits.deBruijn32tab", Rows.laid_math_bits_deBruijn32tab), ("math/bits.deBruijn64tab", Rows.laid_math_bits_deBruijn64tab), ("internal/strconv.uint64pow10", Rows.laid_internal_strconv_uint64pow10), ("strconv.ErrRange", Rows.laid_strconv_ErrRange), ("strconv.ErrSyntax", Rows.laid_strconv_ErrSyntax)] W) (hm : ∃ m, W.cell? ⟨0, 0, none⟩ = some (.int .i64 m)) : RdW W := by
  obtain ⟨a0, s0, h0, -⟩ := laid_sentinel (laidMet.tail (x := ("internal/strconv.uint64pow10", Rows.laid_internal_strconv_uint64pow10)) (laidMet.tail (x := ("math/bits.deBruijn64tab", Rows.laid_math_bits_deBruijn64tab)) (laidMet.tail (x := ("math/bits.deBruijn32tab", Rows.laid_math_bits_deBruijn32tab)) h))) gRng tRng Tryd.underlying144 rowES Tryd.underlying217 Tryd.underlying219 rfl rfl Tryd.underlying9 cellsES cellsStr1
  obtain ⟨a1, s1, h1, -⟩ := laid_sentinel (laidMet.tail (x := ("strconv.ErrRange", Rows.laid_strconv_ErrRange)) (laidMet.tail (x := ("internal/strconv.uint64pow10", Rows.laid_internal_strconv_uint64pow10)) (laidMet.tail (x := ("math/bits.deBruijn64tab", Rows.laid_math_bits_deBruijn64tab)) (laidMet.tail (x := ("math/bits.deBruijn32tab", Rows.laid_math_bits_deBruijn32tab)) h)))) gSyn tSyn Tryd.underlying144 rowES Tryd.underlying217 Tryd.underlying219 rfl rfl Tryd.underlying9 cellsES cellsStr1
  exact ⟨hm, ⟨⟨_, _, h1⟩, _, _, h0⟩, Lib.tabIs_of_head (rest := _) gTab tabType Tryd.underlying194 Tryd.underlying148 u64Cells tabCells (laidMet.tail (x := ("math/bits.deBruijn64tab", Rows.laid_math_bits_deBruijn64tab)) (laidMet.tail (x := ("math/bits.deBruijn32tab", Rows.laid_math_bits_deBruijn32tab)) h))⟩
theorem rd7_of {W : World} (h : laidMetH Tryd.prog [("math/bits.deBruijn32tab", Rows.laid_math_bits_deBruijn32tab), ("math/bits.deBruijn64tab", Rows.laid_math_bits_deBruijn64tab), ("internal/strconv.uint64pow10", Rows.laid_internal_strconv_uint64pow10), ("unicode/utf8.acceptRanges", Rows.laid_unicode_utf8_acceptRanges), ("strconv.ErrRange", Rows.laid_strconv_ErrRange), ("strconv.ErrSyntax", Rows.laid_strconv_ErrSyntax), ("unicode/utf8.first", Rows.laid_unicode_utf8_first)] W) (hm : ∃ m, W.cell? ⟨0, 0, none⟩ = some (.int .i64 m)) : RdW W := by
  obtain ⟨a0, s0, h0, -⟩ := laid_sentinel (laidMet.tail (x := ("unicode/utf8.acceptRanges", Rows.laid_unicode_utf8_acceptRanges)) (laidMet.tail (x := ("internal/strconv.uint64pow10", Rows.laid_internal_strconv_uint64pow10)) (laidMet.tail (x := ("math/bits.deBruijn64tab", Rows.laid_math_bits_deBruijn64tab)) (laidMet.tail (x := ("math/bits.deBruijn32tab", Rows.laid_math_bits_deBruijn32tab)) h)))) gRng tRng Tryd.underlying144 rowES Tryd.underlying217 Tryd.underlying219 rfl rfl Tryd.underlying9 cellsES cellsStr1
  obtain ⟨a1, s1, h1, -⟩ := laid_sentinel (laidMet.tail (x := ("strconv.ErrRange", Rows.laid_strconv_ErrRange)) (laidMet.tail (x := ("unicode/utf8.acceptRanges", Rows.laid_unicode_utf8_acceptRanges)) (laidMet.tail (x := ("internal/strconv.uint64pow10", Rows.laid_internal_strconv_uint64pow10)) (laidMet.tail (x := ("math/bits.deBruijn64tab", Rows.laid_math_bits_deBruijn64tab)) (laidMet.tail (x := ("math/bits.deBruijn32tab", Rows.laid_math_bits_deBruijn32tab)) h))))) gSyn tSyn Tryd.underlying144 rowES Tryd.underlying217 Tryd.underlying219 rfl rfl Tryd.underlying9 cellsES cellsStr1
  exact ⟨hm, ⟨⟨_, _, h1⟩, _, _, h0⟩, Lib.tabIs_of_head (rest := _) gTab tabType Tryd.underlying194 Tryd.underlying148 u64Cells tabCells (laidMet.tail (x := ("math/bits.deBruijn64tab", Rows.laid_math_bits_deBruijn64tab)) (laidMet.tail (x := ("math/bits.deBruijn32tab", Rows.laid_math_bits_deBruijn32tab)) h))⟩
/-- the cells of a listed table of pairs -/
def litPairs (d : DataW Unit) : Array Value :=
  match d with
  | .agg ps => (ps.flatMap fun x => match x with | .agg qs => (qs.map fun y => match y with | .lit l => l.value | _ => undef) | _ => []).toArray
  | _ => #[]
/-- the text of a listed error -/
def litText (d : DataW Unit) : ByteArray :=
  match d with
  | .iface _ (.ptr (.agg [.lit (.string l)])) => ⟨l.toArray⟩
  | _ => ⟨#[]⟩
noncomputable def low : Nat := (World.holding Tryd.prog default ⟨#[], #[], []⟩).heap.size
noncomputable def laidWorld5 (os : Os) : World :=
  layAt (layAt (layAt (layAt (layAt (World.holding Tryd.prog os ⟨#[.cells #[.string (litText Rows.laid_strconv_ErrRange)] 219, .cells #[.string (litText Rows.laid_strconv_ErrSyntax)] 219], #[], []⟩) 1 (litCells Rows.laid_internal_strconv_uint64pow10)) 4 (litCells Rows.laid_math_bits_deBruijn32tab)) 5 (litCells Rows.laid_math_bits_deBruijn64tab)) 3 #[.iface 217 (.pointer (some ⟨low, 0, none⟩))]) 2 #[.iface 217 (.pointer (some ⟨low + 1, 0, none⟩))]
noncomputable def laidWorld7 (os : Os) : World :=
  layAt (layAt (laidWorld5 os) 7 (litPairs Rows.laid_unicode_utf8_acceptRanges)) 6 (litCells Rows.laid_unicode_utf8_first)

end Go.Proofs.YtmfadjdpbobfhaaDoor
