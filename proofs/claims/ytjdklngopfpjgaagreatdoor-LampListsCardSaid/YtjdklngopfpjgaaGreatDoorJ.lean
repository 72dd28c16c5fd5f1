/- Part J of the proof. -/
import Derived.Test.YtjdklngopfpjgaaGreatDoorRows
import Derived.WalkKit
import Derived.ProofKit
import Derived.OpenShut
import Derived.ShutString
import Derived.ChangeOld
import Derived.Below
import Derived.SizedLaws
import Derived.ChangeArms
import Derived.Carry
namespace Go.Proofs.YtjdklngopfpjgaaGreatDoor.lampLists
open Go.ChangeShapes Go.WideShapes Go.ChangeAt Go.RowKit
theorem Csv:joinedFacts Tryz.pinned.checked.prog 3 Tryz.f3 Rows.lampListsSpec Rows.lampListsRow=true:=by kernel_rfl
end Go.Proofs.YtjdklngopfpjgaaGreatDoor.lampLists
