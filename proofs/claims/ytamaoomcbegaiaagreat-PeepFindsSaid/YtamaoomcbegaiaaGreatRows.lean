/-
  No cell of these rows narrows 'for every input' (looked for: loops, veiled, ifaces, maps, wideKeys, modest, calm, conditions, laid).
  DERIVED. THE GIVEN ROWS OF THIS SEAT. 2 by the template 'for every input the law returns true; each argument reads behind the call as it read before'; 0 by the template 'total and deterministic' (their statements: YtamaoomcbegaiaaGreatTotals.lean).
  GIVEN WITH THE SEED: the statements are not yours to turn. If you find one false, say at which input.
  Laid BY PROGRAM, IN A SANDBOX (cutbox-rows.mjs): the forced cells as the released guide's own fill.sh prints them over the translation abc7ef92f18c01ab… (all of the seat's roots in one cut). By AI agents, Wed Nov 11 2026. No macro, syntax, notation, axiom, sorry.
-/
import Derived.Test.YtamaoomcbegaiaaGreatChecked
import GoSem.Claim
import GoSem.ClaimJoined
import GoSem.ClaimMapViews
import Derived.JoinedTies
import Derived.KernelRfl
namespace Go.Proofs.YtamaoomcbegaiaaGreat
/- THE CELL 'sum', in the pinned program and in every row, IS THE sha256 OF THE DUMP (.gsa) THAT YtamaoomcbegaiaaGreatProg.lean LOADS. Nothing in Lean hashes anything: it is a label: what it is worth is what the hold of that sum in a sandbox is worth. -/
noncomputable def Tryz.pinned : Pinned := { name := "ytamaoomcbegaiaagreat", sum := "abc7ef92f18c01abfff60ce0a6210c406f04fdbb44433e0db58a36e7cea4101e", checked := Tryz.checked }
namespace Rows
def none {H : Type} : Left H := { results := [], args := [] }

/-- 'bluebelllaw09.PeepFinds': WHATEVER THE INPUT: true; the input reads as it did. -/
def peepFindsSpec : ChangeSpec := { name := "peepFinds", fn := fun _ => fun
  | [d] => { results := [.lit (.bool true)], args := [d] }
  | _ => none }
def peepFindsRow : OpenClaim := { program := "ytamaoomcbegaiaagreat", sum := "abc7ef92f18c01abfff60ce0a6210c406f04fdbb44433e0db58a36e7cea4101e", func := "bluebell/bluebelllaw09.PeepFinds", spec := "peepFinds", inPlace := ["internal/abi.NoEscape", "internal/bytealg.IndexByteString"], unfollowed := true, recurses := true, apart := false }
def PeepFindsSaid : Prop := peepFindsRow.holds Tryz.pinned (OpenSpec.ofChange peepFindsSpec)

/-- ITS FALSE NEIGHBOUR: 'it returns false'. Refute it at one input. -/
def peepFindsWrong : ChangeSpec := { name := "peepFinds", fn := fun _ => fun
  | [d] => { results := [.lit (.bool false)], args := [d] }
  | _ => none }
def PeepFindsWrongFalsely : Prop := peepFindsRow.holds Tryz.pinned (OpenSpec.ofChange peepFindsWrong)

/-- 'bluebelllaw09.PeepInside': WHATEVER THE INPUT: true; the input reads as it did. -/
def peepInsideSpec : ChangeSpec := { name := "peepInside", fn := fun _ => fun
  | [d] => { results := [.lit (.bool true)], args := [d] }
  | _ => none }
def peepInsideRow : OpenClaim := { program := "ytamaoomcbegaiaagreat", sum := "abc7ef92f18c01abfff60ce0a6210c406f04fdbb44433e0db58a36e7cea4101e", func := "bluebell/bluebelllaw09.PeepInside", spec := "peepInside", inPlace := ["internal/abi.NoEscape", "internal/bytealg.IndexByteString"], unfollowed := true, recurses := true, apart := false }
def PeepInsideSaid : Prop := peepInsideRow.holds Tryz.pinned (OpenSpec.ofChange peepInsideSpec)

/-- ITS FALSE NEIGHBOUR: 'it returns false'. Refute it at one input. -/
def peepInsideWrong : ChangeSpec := { name := "peepInside", fn := fun _ => fun
  | [d] => { results := [.lit (.bool false)], args := [d] }
  | _ => none }
def PeepInsideWrongFalsely : Prop := peepInsideRow.holds Tryz.pinned (OpenSpec.ofChange peepInsideWrong)

/- THE SECOND FORM. 'bulk': how many values and letters a reading holds, each counted each time it is reached (what is shared counts as often as it is met; a slice's spare places count too). A statement '..UptoSaid' is the law's where the arguments, and the package variables that the reading takes, are together of bulk at most 1048576: NARROWER than '..Said'. Prove '..Said' where nothing that the law and all that it calls make is longer than what came in: it says more and counts as full. Else prove '..UptoSaid'. A law counts once. -/
mutual
def uptoBulk {H : Type} : DataW H → Nat
  | .lit (.string bytes) => bytes.length + 1
  | .lit _ => 1
  | .nil => 1
  | .ptr d => uptoBulk d + 1
  | .slice elems spare => uptoBulkAll elems + uptoBulkAll spare + 1
  | .agg parts => uptoBulkAll parts + 1
  | .iface _ d => uptoBulk d + 1
  | .map entries => uptoBulkEntries entries + 1
  | .held _ => 1
def uptoBulkAll {H : Type} : List (DataW H) → Nat
  | [] => 0
  | d :: r => uptoBulk d + uptoBulkAll r
def uptoBulkEntries {H : Type} : List (Lit × DataW H) → Nat
  | [] => 0
  | x :: r => uptoBulkEntry x + uptoBulkEntries r
def uptoBulkEntry {H : Type} : Lit × DataW H → Nat
  | (.string bytes, d) => bytes.length + uptoBulk d + 1
  | (_, d) => uptoBulk d + 1
 end
def uptoSmall : (H : Type) → List (DataW H) → Bool := fun _ ds => decide (uptoBulkAll ds ≤ 1048576)
def OpenSpec.upto (s : _root_.Go.ChangeSpec) : _root_.Go.OpenSpec := { _root_.Go.OpenSpec.ofChange s with cond := some uptoSmall }

/-- 'bluebelllaw09.PeepFinds', WHERE WHAT IT READS IS OF BULK AT MOST 1048576: true; the input reads as it did. -/
def peepFindsUptoRow : OpenClaim := { program := "ytamaoomcbegaiaagreat", sum := "abc7ef92f18c01abfff60ce0a6210c406f04fdbb44433e0db58a36e7cea4101e", func := "bluebell/bluebelllaw09.PeepFinds", spec := "peepFinds", inPlace := ["internal/abi.NoEscape", "internal/bytealg.IndexByteString"], unfollowed := true, recurses := true, apart := false, narrowed := true }
def PeepFindsUptoSaid : Prop := peepFindsUptoRow.holds Tryz.pinned (OpenSpec.upto peepFindsSpec)

/-- 'bluebelllaw09.PeepInside', WHERE WHAT IT READS IS OF BULK AT MOST 1048576: true; the input reads as it did. -/
def peepInsideUptoRow : OpenClaim := { program := "ytamaoomcbegaiaagreat", sum := "abc7ef92f18c01abfff60ce0a6210c406f04fdbb44433e0db58a36e7cea4101e", func := "bluebell/bluebelllaw09.PeepInside", spec := "peepInside", inPlace := ["internal/abi.NoEscape", "internal/bytealg.IndexByteString"], unfollowed := true, recurses := true, apart := false, narrowed := true }
def PeepInsideUptoSaid : Prop := peepInsideUptoRow.holds Tryz.pinned (OpenSpec.upto peepInsideSpec)

end Rows
end Go.Proofs.YtamaoomcbegaiaaGreat
