/- A world in which the listed tables of Go's library lie as their text lays them: the witness of the rows of this seat. -/
import Derived.Test.YtfgifjdapojheaaDoorRows
import Derived.Test.YtfgifjdapojheaaDoorGlob
import Derived.Deep.DeepHandedRow
import Derived.ProofKit
namespace Go.Proofs.YtfgifjdapojheaaDoor
def firstCells : Array Value := (Go.Pinned.utf8FirstZ.map fun (n : Nat) => Value.int .u8 (n : Int)).toArray
def acceptCells : Array Value := #[.int .u8 128, .int .u8 191, .int .u8 160, .int .u8 191, .int .u8 128, .int .u8 159, .int .u8 144, .int .u8 191, .int .u8 128, .int .u8 143] ++ Array.replicate 22 (.int .u8 0)
def setCells (cs : Array Value) : Obj → Obj
  | .cells _ t frozen => .cells cs t frozen
  | o => o
noncomputable def laidWorld (os : Os) : World :=
  { World.holding Tryd.prog os ⟨#[], #[], []⟩ with heap := ((World.holding Tryd.prog os ⟨#[], #[], []⟩).heap.modify 1 (setCells firstCells)).modify 2 (setCells acceptCells) }
end Go.Proofs.YtfgifjdapojheaaDoor
