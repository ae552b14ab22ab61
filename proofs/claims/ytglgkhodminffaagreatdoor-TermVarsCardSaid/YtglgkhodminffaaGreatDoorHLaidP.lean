/- A world that meets the rows' list of package-level variables (for the witness). -/
import Derived.Test.YtglgkhodminffaaGreatDoorProg
import Derived.Test.YtglgkhodminffaaGreatDoorCards
import Derived.Test.YtglgkhodminffaaGreatDoorTie
import Derived.WalkKit
import Derived.ProofKit
import Derived.OpenShut
import Derived.Deep.DeepHandedRow
import Derived.Deep.DeepWitnessRowRef
import Derived.Lib.LaidTab
import Derived.Lib.LaidIn
import Derived.Stop.LaidErr
import Derived.Lib.SmallJoins
namespace Go.Proofs.YtglgkhodminffaaGreatDoor
open Go.ChangeShapes Go.WideShapes Go.ChangeAt Go.RowKit Go.Joins

def laidAll : List (String × DataW Unit) := [("math/bits.deBruijn32tab", Rows.laid_math_bits_deBruijn32tab), ("math/bits.deBruijn64tab", Rows.laid_math_bits_deBruijn64tab), ("internal/strconv.uint64pow10", Rows.laid_internal_strconv_uint64pow10), ("unicode/utf8.acceptRanges", Rows.laid_unicode_utf8_acceptRanges), ("strconv.ErrRange", Rows.laid_strconv_ErrRange), ("strconv.ErrSyntax", Rows.laid_strconv_ErrSyntax), ("unicode/utf8.first", Rows.laid_unicode_utf8_first)]

def litCells : DataW Unit → List Value
  | .lit (.int k n) => [.int k n]
  | _ => []
def litCells1 : DataW Unit → List Value
  | .agg l => l.flatMap litCells
  | x => litCells x
def litCells2 : DataW Unit → List Value
  | .agg l => l.flatMap litCells1
  | _ => []
def litText : DataW Unit → List UInt8
  | .iface _ (.ptr (.agg [.lit (.string l)])) => l
  | _ => []

/-- A WORLD FOR THE WITNESSES: the settled one with two blocks more (the two error values' structs), the listed variables holding what their initialisers lay. -/
noncomputable def laidWorld (os : Os) : World :=
  let N := (World.settled Tryz.prog os).heap.size
  let w0 := World.holding Tryz.prog os ⟨#[.cells #[.string ⟨(litText Rows.laid_strconv_ErrRange).toArray⟩] 171, .cells #[.string ⟨(litText Rows.laid_strconv_ErrSyntax).toArray⟩] 171], #[], []⟩
  let put (h : Array Obj) (g : Nat) (cs : Array Value) : Array Obj := h.modify g fun
    | .cells _ t frozen => .cells cs t frozen
    | o => o
  let h0 := put (put w0.heap 3 #[.iface 169 (.pointer (some ⟨N, 0, none⟩))]) 2 #[.iface 169 (.pointer (some ⟨N + 1, 0, none⟩))]
  let h1 := put (put h0 4 (litCells2 Rows.laid_math_bits_deBruijn32tab).toArray) 5 (litCells2 Rows.laid_math_bits_deBruijn64tab).toArray
  let h2 := put (put h1 0 (litCells2 Rows.laid_internal_strconv_uint64pow10).toArray) 7 (litCells2 Rows.laid_unicode_utf8_acceptRanges).toArray
  let h3 := put h2 6 (litCells2 Rows.laid_unicode_utf8_first).toArray
  { w0 with heap := h3 }

set_option maxRecDepth 1000000 in
theorem laid_met (os : Os) (args : Array Value) : laidMet Tryz.prog laidAll ((laidWorld os).forCall (fun _ _ => 0) ⟨#[], args, []⟩).memory :=
  laidMet_of_run' 10 (by kernel_rfl) (by kernel_rfl)
theorem own : ownKnob Tryz.prog.godebug = none := by kernel_rfl
end Go.Proofs.YtglgkhodminffaaGreatDoor
