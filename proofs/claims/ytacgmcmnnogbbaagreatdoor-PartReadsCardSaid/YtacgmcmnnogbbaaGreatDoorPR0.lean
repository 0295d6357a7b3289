import Derived.Test.YtacgmcmnnogbbaaGreatDoorRows
import Derived.Deep.DeepHandedRow
import Derived.Deep.DeepWitnessRowRef
import Derived.Deep.DeepLaidRun
import Derived.Lib.LaidTab
import Derived.WalkKit
import Derived.ProofKit
import Derived.OpenShut
namespace Go.Proofs.YtacgmcmnnogbbaaGreatDoor.JW
open Go.ChangeShapes Go.WideShapes Go.ChangeAt Go.RowKit
set_option maxRecDepth 100000
theorem own : ownKnob Tryz.prog.godebug = none := by kernel_rfl
theorem laidOut : laidOutB Tryz.prog = true := by kernel_rfl
mutual
/-- A datum's cells. -/
def flat : DataW Unit → List Value
  | .lit (.int k n) => [.int k n]
  | .agg parts => flatAll parts
  | _ => []
def flatAll : List (DataW Unit) → List Value
  | [] => []
  | d :: r => flat d ++ flatAll r
end
/-- The ranges of unicode.White_Space. -/
def ranges : List Value := [9, 13, 1, 32, 133, 101, 160, 5760, 5600, 8192, 8202, 1, 8232, 8233, 1, 8239, 8287, 48, 12288, 12288, 1].map fun (z : Nat) => Value.int .u16 (z : Int)
noncomputable def laidWorld (os : Os) : World :=
  let N := (World.settled Tryz.prog os).heap.size
  let w0 := World.holding Tryz.prog os ⟨#[.cells ranges.toArray 180, .cells #[.slice (some ⟨N, 0, none⟩) 7 7, .slice none 0 0, .int .i64 2] 178], #[], []⟩
  let put (h : Array Obj) (g : Nat) (cs : Array Value) : Array Obj := h.modify g fun
    | .cells _ t frozen => .cells cs t frozen
    | o => o
  let h1 := put w0.heap 0 (flat Rows.laid_unicode_utf8_first).toArray
  let h2 := put h1 1 (flat Rows.laid_unicode_utf8_acceptRanges).toArray
  let h3 := put h2 3 (flat Rows.laid_internal_strconv_uint64pow10).toArray
  let h4 := put h3 4 (flat Rows.laid_strings_asciiSpace).toArray
  let h5 := put h4 5 #[.pointer (some ⟨N + 1, 0, none⟩)]
  let h6 := put h5 6 (flat Rows.laid_math_bits_deBruijn32tab).toArray
  let h7 := put h6 7 (flat Rows.laid_math_bits_deBruijn64tab).toArray
  { w0 with heap := h7 }
theorem laid_met (os : Os) (args : Array Value) : laidMet Tryz.prog Rows.partJoinsRow.laid ((laidWorld os).forCall (fun _ _ => 0) ⟨#[], args, []⟩).memory :=
  laidMet_of_run3 10 (by kernel_rfl) (by kernel_rfl) (by kernel_rfl)
theorem variables (os : Os) (args : Array Value) : ((laidWorld os).forCall (fun _ _ => 0) ⟨#[], args, []⟩).variablesRefB Tryz.checked.prog = true := by kernel_rfl
end Go.Proofs.YtacgmcmnnogbbaaGreatDoor.JW

