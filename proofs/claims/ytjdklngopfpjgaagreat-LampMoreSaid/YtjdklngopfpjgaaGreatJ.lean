/- Part J of the proof. -/
import Derived.Test.YtjdklngopfpjgaaGreatRows
import Derived.WalkKit
import Derived.ProofKit
import Derived.OpenShut
import Derived.ShutString
import Derived.ChangeOld
import Derived.Below
import Derived.SizedLaws
import Derived.ChangeArms
import Derived.Carry
namespace Go.Proofs.YtjdklngopfpjgaaGreat.lampMore
open Go.ChangeShapes Go.WideShapes Go.ChangeAt Go.RowKit
theorem Ddv:joinedFacts Tryz.pinned.checked.prog 7 Tryz.f7 Rows.lampMoreSpec Rows.lampMoreRow=true:=by kernel_rfl
end Go.Proofs.YtjdklngopfpjgaaGreat.lampMore
