/- Part J of the proof. -/
import Derived.Test.YtjdklngopfpjgaaGreatDoorRows
import Derived.WalkKit
import Derived.ProofKit
import Derived.OpenShut
import Derived.ShutString
import Derived.ChangeOld
import Derived.Below
import Derived.SizedLaws
import Derived.ChangeArms
import Derived.Carry
namespace Go.Proofs.YtjdklngopfpjgaaGreatDoor.millChecks
open Go.ChangeShapes Go.WideShapes Go.ChangeAt Go.RowKit
theorem Csu:joinedFacts Tryz.pinned.checked.prog 4 Tryz.f4 Rows.millChecksSpec Rows.millChecksRow=true:=by kernel_rfl
end Go.Proofs.YtjdklngopfpjgaaGreatDoor.millChecks
