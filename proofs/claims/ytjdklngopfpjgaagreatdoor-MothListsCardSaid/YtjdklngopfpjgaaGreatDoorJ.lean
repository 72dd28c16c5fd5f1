/- Part J of the proof. -/
import Derived.Test.YtjdklngopfpjgaaGreatDoorRows
import Derived.WalkKit
import Derived.ProofKit
import Derived.OpenShut
import Derived.ShutString
import Derived.ChangeOld
import Derived.Below
import Derived.SizedLaws
import Derived.ChangeArms
import Derived.Carry
namespace Go.Proofs.YtjdklngopfpjgaaGreatDoor.mothLists
open Go.ChangeShapes Go.WideShapes Go.ChangeAt Go.RowKit
theorem Cs2 : joinedFacts Tryz.pinned.checked.prog 5 Tryz.f5 Rows.mothListsSpec Rows.mothListsRow = true := by kernel_rfl
end Go.Proofs.YtjdklngopfpjgaaGreatDoor.mothLists
