/- Part J of the proof. -/
import Derived.Test.YtjdklngopfpjgaaGreatRows
import Derived.WalkKit
import Derived.ProofKit
import Derived.OpenShut
import Derived.ShutString
import Derived.ChangeOld
import Derived.Below
import Derived.SizedLaws
import Derived.ChangeArms
import Derived.Carry
namespace Go.Proofs.YtjdklngopfpjgaaGreat.lampChecks
open Go.ChangeShapes Go.WideShapes Go.ChangeAt Go.RowKit
theorem Cm9 : joinedFacts Tryz.pinned.checked.prog 3 Tryz.f3 Rows.lampChecksSpec Rows.lampChecksRow = true := by kernel_rfl
end Go.Proofs.YtjdklngopfpjgaaGreat.lampChecks
