/- Part J of the proof. -/
import Derived.Test.YtamaoomcbegaiaaGreatRows
import Derived.WalkKit
import Derived.ProofKit
import Derived.OpenShut
import Derived.ShutString
import Derived.ChangeOld
import Derived.Below
import Derived.SizedLaws
import Derived.ChangeArms
import Derived.Carry
namespace Go.Proofs.YtamaoomcbegaiaaGreat.peepFinds
open Go.ChangeShapes Go.WideShapes Go.ChangeAt Go.RowKit
theorem Dll:joinedFacts Tryz.pinned.checked.prog 3 Tryz.f3 Rows.peepFindsSpec Rows.peepFindsRow=true:=by kernel_rfl
end Go.Proofs.YtamaoomcbegaiaaGreat.peepFinds
