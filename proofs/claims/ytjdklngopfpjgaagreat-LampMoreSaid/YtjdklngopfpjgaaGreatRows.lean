/-
  No cell of these rows narrows 'for every input' (looked for: loops, veiled, ifaces, maps, wideKeys, modest, calm, conditions, laid).
  DERIVED. THE GIVEN ROWS OF THIS SEAT. 9 by the template 'for every input the law returns true; each argument reads behind the call as it read before'; 0 by the template 'total and deterministic' (their statements: YtjdklngopfpjgaaGreatTotals.lean).
  GIVEN WITH THE SEED: the statements are not yours to turn. If you find one false, say at which input.
  Laid BY PROGRAM, IN A SANDBOX (cutbox-rows.mjs): the forced cells as the released guide's own fill.sh prints them over the translation a517c7e4f9188aff… (all of the seat's roots in one cut). By AI agents, Wed Nov 11 2026. No macro, syntax, notation, axiom, sorry.
-/
import Derived.Test.YtjdklngopfpjgaaGreatChecked
import GoSem.Claim
import GoSem.ClaimJoined
import GoSem.ClaimMapViews
import Derived.JoinedTies
import Derived.KernelRfl
namespace Go.Proofs.YtjdklngopfpjgaaGreat
/- THE CELL 'sum', in the pinned program and in every row, IS THE sha256 OF THE DUMP (.gsa) THAT YtjdklngopfpjgaaGreatProg.lean LOADS. Nothing in Lean hashes anything: it is a label: what it is worth is what the hold of that sum in a sandbox is worth. -/
noncomputable def Tryz.pinned : Pinned := { name := "ytjdklngopfpjgaagreat", sum := "a517c7e4f9188aff822fb23779fade09fbb5c075320777cc1cad603ef5b207f9", checked := Tryz.checked }
namespace Rows
def none {H : Type} : Left H := { results := [], args := [] }

/-- 'bluebelllaw12.LampChecks': WHATEVER THE INPUT: true; the input reads as it did. -/
def lampChecksSpec : ChangeSpec := { name := "lampChecks", fn := fun _ => fun
  | [d] => { results := [.lit (.bool true)], args := [d] }
  | _ => none }
def lampChecksRow : OpenClaim := { program := "ytjdklngopfpjgaagreat", sum := "a517c7e4f9188aff822fb23779fade09fbb5c075320777cc1cad603ef5b207f9", func := "bluebell/bluebelllaw12.LampChecks", spec := "lampChecks", inPlace := ["internal/abi.NoEscape", "internal/bytealg.IndexByteString"], unfollowed := true, recurses := true, apart := false }
def LampChecksSaid : Prop := lampChecksRow.holds Tryz.pinned (OpenSpec.ofChange lampChecksSpec)

/-- ITS FALSE NEIGHBOUR: 'it returns false'. Refute it at one input. -/
def lampChecksWrong : ChangeSpec := { name := "lampChecks", fn := fun _ => fun
  | [d] => { results := [.lit (.bool false)], args := [d] }
  | _ => none }
def LampChecksWrongFalsely : Prop := lampChecksRow.holds Tryz.pinned (OpenSpec.ofChange lampChecksWrong)

/-- 'bluebelllaw13.MillPeeps': WHATEVER THE INPUT: true; the input reads as it did. -/
def millPeepsSpec : ChangeSpec := { name := "millPeeps", fn := fun _ => fun
  | [d] => { results := [.lit (.bool true)], args := [d] }
  | _ => none }
def millPeepsRow : OpenClaim := { program := "ytjdklngopfpjgaagreat", sum := "a517c7e4f9188aff822fb23779fade09fbb5c075320777cc1cad603ef5b207f9", func := "bluebell/bluebelllaw13.MillPeeps", spec := "millPeeps", inPlace := ["internal/abi.NoEscape", "internal/bytealg.IndexByteString"], unfollowed := true, recurses := true, apart := false }
def MillPeepsSaid : Prop := millPeepsRow.holds Tryz.pinned (OpenSpec.ofChange millPeepsSpec)

/-- ITS FALSE NEIGHBOUR: 'it returns false'. Refute it at one input. -/
def millPeepsWrong : ChangeSpec := { name := "millPeeps", fn := fun _ => fun
  | [d] => { results := [.lit (.bool false)], args := [d] }
  | _ => none }
def MillPeepsWrongFalsely : Prop := millPeepsRow.holds Tryz.pinned (OpenSpec.ofChange millPeepsWrong)

/-- 'bluebelllaw12.LampRuns': WHATEVER THE INPUT: true; the input reads as it did. -/
def lampRunsSpec : ChangeSpec := { name := "lampRuns", fn := fun _ => fun
  | [d] => { results := [.lit (.bool true)], args := [d] }
  | _ => none }
def lampRunsRow : OpenClaim := { program := "ytjdklngopfpjgaagreat", sum := "a517c7e4f9188aff822fb23779fade09fbb5c075320777cc1cad603ef5b207f9", func := "bluebell/bluebelllaw12.LampRuns", spec := "lampRuns", inPlace := ["internal/abi.NoEscape", "internal/bytealg.IndexByteString"], unfollowed := true, recurses := true, apart := false }
def LampRunsSaid : Prop := lampRunsRow.holds Tryz.pinned (OpenSpec.ofChange lampRunsSpec)

/-- ITS FALSE NEIGHBOUR: 'it returns false'. Refute it at one input. -/
def lampRunsWrong : ChangeSpec := { name := "lampRuns", fn := fun _ => fun
  | [d] => { results := [.lit (.bool false)], args := [d] }
  | _ => none }
def LampRunsWrongFalsely : Prop := lampRunsRow.holds Tryz.pinned (OpenSpec.ofChange lampRunsWrong)

/-- 'bluebelllaw12.LampSteps': WHATEVER THE INPUT: true; the input reads as it did. -/
def lampStepsSpec : ChangeSpec := { name := "lampSteps", fn := fun _ => fun
  | [d] => { results := [.lit (.bool true)], args := [d] }
  | _ => none }
def lampStepsRow : OpenClaim := { program := "ytjdklngopfpjgaagreat", sum := "a517c7e4f9188aff822fb23779fade09fbb5c075320777cc1cad603ef5b207f9", func := "bluebell/bluebelllaw12.LampSteps", spec := "lampSteps", inPlace := ["internal/abi.NoEscape", "internal/bytealg.IndexByteString"], unfollowed := true, recurses := true, apart := false }
def LampStepsSaid : Prop := lampStepsRow.holds Tryz.pinned (OpenSpec.ofChange lampStepsSpec)

/-- ITS FALSE NEIGHBOUR: 'it returns false'. Refute it at one input. -/
def lampStepsWrong : ChangeSpec := { name := "lampSteps", fn := fun _ => fun
  | [d] => { results := [.lit (.bool false)], args := [d] }
  | _ => none }
def LampStepsWrongFalsely : Prop := lampStepsRow.holds Tryz.pinned (OpenSpec.ofChange lampStepsWrong)

/-- 'bluebelllaw12.LampMore': WHATEVER THE INPUT: true; the input reads as it did. -/
def lampMoreSpec : ChangeSpec := { name := "lampMore", fn := fun _ => fun
  | [d1, d2] => { results := [.lit (.bool true)], args := [d1, d2] }
  | _ => none }
def lampMoreRow : OpenClaim := { program := "ytjdklngopfpjgaagreat", sum := "a517c7e4f9188aff822fb23779fade09fbb5c075320777cc1cad603ef5b207f9", func := "bluebell/bluebelllaw12.LampMore", spec := "lampMore", inPlace := ["internal/abi.NoEscape", "internal/bytealg.IndexByteString"], unfollowed := true, recurses := true, apart := false }
def LampMoreSaid : Prop := lampMoreRow.holds Tryz.pinned (OpenSpec.ofChange lampMoreSpec)

/-- ITS FALSE NEIGHBOUR: 'it returns false'. Refute it at one input. -/
def lampMoreWrong : ChangeSpec := { name := "lampMore", fn := fun _ => fun
  | [d1, d2] => { results := [.lit (.bool false)], args := [d1, d2] }
  | _ => none }
def LampMoreWrongFalsely : Prop := lampMoreRow.holds Tryz.pinned (OpenSpec.ofChange lampMoreWrong)

/-- 'bluebelllaw14.MothRuns': WHATEVER THE INPUT: true; the input reads as it did. -/
def mothRunsSpec : ChangeSpec := { name := "mothRuns", fn := fun _ => fun
  | [d] => { results := [.lit (.bool true)], args := [d] }
  | _ => none }
def mothRunsRow : OpenClaim := { program := "ytjdklngopfpjgaagreat", sum := "a517c7e4f9188aff822fb23779fade09fbb5c075320777cc1cad603ef5b207f9", func := "bluebell/bluebelllaw14.MothRuns", spec := "mothRuns", inPlace := ["internal/abi.NoEscape", "internal/bytealg.IndexByteString"], unfollowed := true, recurses := true, apart := false }
def MothRunsSaid : Prop := mothRunsRow.holds Tryz.pinned (OpenSpec.ofChange mothRunsSpec)

/-- ITS FALSE NEIGHBOUR: 'it returns false'. Refute it at one input. -/
def mothRunsWrong : ChangeSpec := { name := "mothRuns", fn := fun _ => fun
  | [d] => { results := [.lit (.bool false)], args := [d] }
  | _ => none }
def MothRunsWrongFalsely : Prop := mothRunsRow.holds Tryz.pinned (OpenSpec.ofChange mothRunsWrong)

/-- 'bluebelllaw14.MothMore': WHATEVER THE INPUT: true; the input reads as it did. -/
def mothMoreSpec : ChangeSpec := { name := "mothMore", fn := fun _ => fun
  | [d1, d2] => { results := [.lit (.bool true)], args := [d1, d2] }
  | _ => none }
def mothMoreRow : OpenClaim := { program := "ytjdklngopfpjgaagreat", sum := "a517c7e4f9188aff822fb23779fade09fbb5c075320777cc1cad603ef5b207f9", func := "bluebell/bluebelllaw14.MothMore", spec := "mothMore", inPlace := ["internal/abi.NoEscape", "internal/bytealg.IndexByteString"], unfollowed := true, recurses := true, apart := false }
def MothMoreSaid : Prop := mothMoreRow.holds Tryz.pinned (OpenSpec.ofChange mothMoreSpec)

/-- ITS FALSE NEIGHBOUR: 'it returns false'. Refute it at one input. -/
def mothMoreWrong : ChangeSpec := { name := "mothMore", fn := fun _ => fun
  | [d1, d2] => { results := [.lit (.bool false)], args := [d1, d2] }
  | _ => none }
def MothMoreWrongFalsely : Prop := mothMoreRow.holds Tryz.pinned (OpenSpec.ofChange mothMoreWrong)

/-- 'bluebelllaw14.MothLocals': WHATEVER THE INPUT: true; the input reads as it did. -/
def mothLocalsSpec : ChangeSpec := { name := "mothLocals", fn := fun _ => fun
  | [d1, d2] => { results := [.lit (.bool true)], args := [d1, d2] }
  | _ => none }
def mothLocalsRow : OpenClaim := { program := "ytjdklngopfpjgaagreat", sum := "a517c7e4f9188aff822fb23779fade09fbb5c075320777cc1cad603ef5b207f9", func := "bluebell/bluebelllaw14.MothLocals", spec := "mothLocals", inPlace := ["internal/abi.NoEscape", "internal/bytealg.IndexByteString"], unfollowed := true, recurses := true, apart := false }
def MothLocalsSaid : Prop := mothLocalsRow.holds Tryz.pinned (OpenSpec.ofChange mothLocalsSpec)

/-- ITS FALSE NEIGHBOUR: 'it returns false'. Refute it at one input. -/
def mothLocalsWrong : ChangeSpec := { name := "mothLocals", fn := fun _ => fun
  | [d1, d2] => { results := [.lit (.bool false)], args := [d1, d2] }
  | _ => none }
def MothLocalsWrongFalsely : Prop := mothLocalsRow.holds Tryz.pinned (OpenSpec.ofChange mothLocalsWrong)

/-- 'bluebelllaw13.MillRuns': WHATEVER THE INPUT: true; the input reads as it did. -/
def millRunsSpec : ChangeSpec := { name := "millRuns", fn := fun _ => fun
  | [d1, d2, d3, d4] => { results := [.lit (.bool true)], args := [d1, d2, d3, d4] }
  | _ => none }
def millRunsRow : OpenClaim := { program := "ytjdklngopfpjgaagreat", sum := "a517c7e4f9188aff822fb23779fade09fbb5c075320777cc1cad603ef5b207f9", func := "bluebell/bluebelllaw13.MillRuns", spec := "millRuns", inPlace := ["internal/abi.NoEscape", "internal/bytealg.IndexByteString"], unfollowed := true, recurses := true, apart := false }
def MillRunsSaid : Prop := millRunsRow.holds Tryz.pinned (OpenSpec.ofChange millRunsSpec)

/-- ITS FALSE NEIGHBOUR: 'it returns false'. Refute it at one input. -/
def millRunsWrong : ChangeSpec := { name := "millRuns", fn := fun _ => fun
  | [d1, d2, d3, d4] => { results := [.lit (.bool false)], args := [d1, d2, d3, d4] }
  | _ => none }
def MillRunsWrongFalsely : Prop := millRunsRow.holds Tryz.pinned (OpenSpec.ofChange millRunsWrong)

/- THE SECOND FORM. 'bulk': how many values and letters a reading holds, each counted each time it is reached (what is shared counts as often as it is met; a slice's spare places count too). A statement '..UptoSaid' is the law's where the arguments, and the package variables that the reading takes, are together of bulk at most 1048576: NARROWER than '..Said'. Prove '..Said' where nothing that the law and all that it calls make is longer than what came in: it says more and counts as full. Else prove '..UptoSaid'. A law counts once. -/
mutual
def uptoBulk {H : Type} : DataW H → Nat
  | .lit (.string bytes) => bytes.length + 1
  | .lit _ => 1
  | .nil => 1
  | .ptr d => uptoBulk d + 1
  | .slice elems spare => uptoBulkAll elems + uptoBulkAll spare + 1
  | .agg parts => uptoBulkAll parts + 1
  | .iface _ d => uptoBulk d + 1
  | .map entries => uptoBulkEntries entries + 1
  | .held _ => 1
def uptoBulkAll {H : Type} : List (DataW H) → Nat
  | [] => 0
  | d :: r => uptoBulk d + uptoBulkAll r
def uptoBulkEntries {H : Type} : List (Lit × DataW H) → Nat
  | [] => 0
  | x :: r => uptoBulkEntry x + uptoBulkEntries r
def uptoBulkEntry {H : Type} : Lit × DataW H → Nat
  | (.string bytes, d) => bytes.length + uptoBulk d + 1
  | (_, d) => uptoBulk d + 1
 end
def uptoSmall : (H : Type) → List (DataW H) → Bool := fun _ ds => decide (uptoBulkAll ds ≤ 1048576)
def OpenSpec.upto (s : _root_.Go.ChangeSpec) : _root_.Go.OpenSpec := { _root_.Go.OpenSpec.ofChange s with cond := some uptoSmall }

/-- 'bluebelllaw12.LampChecks', WHERE WHAT IT READS IS OF BULK AT MOST 1048576: true; the input reads as it did. -/
def lampChecksUptoRow : OpenClaim := { program := "ytjdklngopfpjgaagreat", sum := "a517c7e4f9188aff822fb23779fade09fbb5c075320777cc1cad603ef5b207f9", func := "bluebell/bluebelllaw12.LampChecks", spec := "lampChecks", inPlace := ["internal/abi.NoEscape", "internal/bytealg.IndexByteString"], unfollowed := true, recurses := true, apart := false, narrowed := true }
def LampChecksUptoSaid : Prop := lampChecksUptoRow.holds Tryz.pinned (OpenSpec.upto lampChecksSpec)

/-- 'bluebelllaw13.MillPeeps', WHERE WHAT IT READS IS OF BULK AT MOST 1048576: true; the input reads as it did. -/
def millPeepsUptoRow : OpenClaim := { program := "ytjdklngopfpjgaagreat", sum := "a517c7e4f9188aff822fb23779fade09fbb5c075320777cc1cad603ef5b207f9", func := "bluebell/bluebelllaw13.MillPeeps", spec := "millPeeps", inPlace := ["internal/abi.NoEscape", "internal/bytealg.IndexByteString"], unfollowed := true, recurses := true, apart := false, narrowed := true }
def MillPeepsUptoSaid : Prop := millPeepsUptoRow.holds Tryz.pinned (OpenSpec.upto millPeepsSpec)

/-- 'bluebelllaw12.LampRuns', WHERE WHAT IT READS IS OF BULK AT MOST 1048576: true; the input reads as it did. -/
def lampRunsUptoRow : OpenClaim := { program := "ytjdklngopfpjgaagreat", sum := "a517c7e4f9188aff822fb23779fade09fbb5c075320777cc1cad603ef5b207f9", func := "bluebell/bluebelllaw12.LampRuns", spec := "lampRuns", inPlace := ["internal/abi.NoEscape", "internal/bytealg.IndexByteString"], unfollowed := true, recurses := true, apart := false, narrowed := true }
def LampRunsUptoSaid : Prop := lampRunsUptoRow.holds Tryz.pinned (OpenSpec.upto lampRunsSpec)

/-- 'bluebelllaw12.LampSteps', WHERE WHAT IT READS IS OF BULK AT MOST 1048576: true; the input reads as it did. -/
def lampStepsUptoRow : OpenClaim := { program := "ytjdklngopfpjgaagreat", sum := "a517c7e4f9188aff822fb23779fade09fbb5c075320777cc1cad603ef5b207f9", func := "bluebell/bluebelllaw12.LampSteps", spec := "lampSteps", inPlace := ["internal/abi.NoEscape", "internal/bytealg.IndexByteString"], unfollowed := true, recurses := true, apart := false, narrowed := true }
def LampStepsUptoSaid : Prop := lampStepsUptoRow.holds Tryz.pinned (OpenSpec.upto lampStepsSpec)

/-- 'bluebelllaw12.LampMore', WHERE WHAT IT READS IS OF BULK AT MOST 1048576: true; the input reads as it did. -/
def lampMoreUptoRow : OpenClaim := { program := "ytjdklngopfpjgaagreat", sum := "a517c7e4f9188aff822fb23779fade09fbb5c075320777cc1cad603ef5b207f9", func := "bluebell/bluebelllaw12.LampMore", spec := "lampMore", inPlace := ["internal/abi.NoEscape", "internal/bytealg.IndexByteString"], unfollowed := true, recurses := true, apart := false, narrowed := true }
def LampMoreUptoSaid : Prop := lampMoreUptoRow.holds Tryz.pinned (OpenSpec.upto lampMoreSpec)

/-- 'bluebelllaw14.MothRuns', WHERE WHAT IT READS IS OF BULK AT MOST 1048576: true; the input reads as it did. -/
def mothRunsUptoRow : OpenClaim := { program := "ytjdklngopfpjgaagreat", sum := "a517c7e4f9188aff822fb23779fade09fbb5c075320777cc1cad603ef5b207f9", func := "bluebell/bluebelllaw14.MothRuns", spec := "mothRuns", inPlace := ["internal/abi.NoEscape", "internal/bytealg.IndexByteString"], unfollowed := true, recurses := true, apart := false, narrowed := true }
def MothRunsUptoSaid : Prop := mothRunsUptoRow.holds Tryz.pinned (OpenSpec.upto mothRunsSpec)

/-- 'bluebelllaw14.MothMore', WHERE WHAT IT READS IS OF BULK AT MOST 1048576: true; the input reads as it did. -/
def mothMoreUptoRow : OpenClaim := { program := "ytjdklngopfpjgaagreat", sum := "a517c7e4f9188aff822fb23779fade09fbb5c075320777cc1cad603ef5b207f9", func := "bluebell/bluebelllaw14.MothMore", spec := "mothMore", inPlace := ["internal/abi.NoEscape", "internal/bytealg.IndexByteString"], unfollowed := true, recurses := true, apart := false, narrowed := true }
def MothMoreUptoSaid : Prop := mothMoreUptoRow.holds Tryz.pinned (OpenSpec.upto mothMoreSpec)

/-- 'bluebelllaw14.MothLocals', WHERE WHAT IT READS IS OF BULK AT MOST 1048576: true; the input reads as it did. -/
def mothLocalsUptoRow : OpenClaim := { program := "ytjdklngopfpjgaagreat", sum := "a517c7e4f9188aff822fb23779fade09fbb5c075320777cc1cad603ef5b207f9", func := "bluebell/bluebelllaw14.MothLocals", spec := "mothLocals", inPlace := ["internal/abi.NoEscape", "internal/bytealg.IndexByteString"], unfollowed := true, recurses := true, apart := false, narrowed := true }
def MothLocalsUptoSaid : Prop := mothLocalsUptoRow.holds Tryz.pinned (OpenSpec.upto mothLocalsSpec)

/-- 'bluebelllaw13.MillRuns', WHERE WHAT IT READS IS OF BULK AT MOST 1048576: true; the input reads as it did. -/
def millRunsUptoRow : OpenClaim := { program := "ytjdklngopfpjgaagreat", sum := "a517c7e4f9188aff822fb23779fade09fbb5c075320777cc1cad603ef5b207f9", func := "bluebell/bluebelllaw13.MillRuns", spec := "millRuns", inPlace := ["internal/abi.NoEscape", "internal/bytealg.IndexByteString"], unfollowed := true, recurses := true, apart := false, narrowed := true }
def MillRunsUptoSaid : Prop := millRunsUptoRow.holds Tryz.pinned (OpenSpec.upto millRunsSpec)

end Rows
end Go.Proofs.YtjdklngopfpjgaaGreat
