/- The law, with its callees' answers. -/
import Derived.Test.YtafidhpdoepljaaGreatO
namespace Q
open Go Go.AX

theorem stackNil_pure (x0 : Ty.den (.list (.int .i64))) (y0 : Wf _ x0) (x1 : Ty.den (.int .i64)) (y1 : Wf (.int .i64) x1) :
    ∃ N, (s_law08_StackNil N).run AV [argAV false (.list (.int .i64)) x0, argAV false (.int .i64) x1] [] (fun v _ _ => some v) = some (vb true) :=
  ⟨0, rfl⟩

end Q
