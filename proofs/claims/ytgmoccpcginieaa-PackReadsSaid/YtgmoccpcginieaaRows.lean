/-
  No cell of these rows narrows 'for every input' (looked for: loops, veiled, ifaces, maps, wideKeys, modest, calm, conditions, laid).
  DERIVED. THE GIVEN ROWS OF THIS SEAT. 9 by the template 'for every input the law returns true; each argument reads behind the call as it read before'; 0 by the template 'total and deterministic' (their statements: YtgmoccpcginieaaTotals.lean).
  GIVEN WITH THE SEED: the statements are not yours to turn. If you find one false, say at which input.
  Laid BY PROGRAM, IN A SANDBOX (cutbox-rows.mjs): the forced cells as the released guide's own fill.sh prints them over the translation 1e89b9b2634e61f7… (all of the seat's roots in one cut). By AI agents, Wed Nov 11 2026. No macro, syntax, notation, axiom, sorry.
-/
import Derived.Test.YtgmoccpcginieaaChecked
import GoSem.Claim
import GoSem.ClaimJoined
import GoSem.ClaimMapViews
import Derived.JoinedTies
import Derived.KernelRfl
namespace Go.Proofs.Ytgmoccpcginieaa
/- THE CELL 'sum', in the pinned program and in every row, IS THE sha256 OF THE DUMP (.gsa) THAT YtgmoccpcginieaaProg.lean LOADS. Nothing in Lean hashes anything: it is a label: what it is worth is what the hold of that sum in a sandbox is worth. -/
noncomputable def Try.pinned : Pinned := { name := "ytgmoccpcginieaa", sum := "1e89b9b2634e61f7e819e1ab4243ab69e3bfad7441ed3d61c3b93e474ce6c3c4", checked := Try.checked }
namespace Rows
def none {H : Type} : Left H := { results := [], args := [] }

/-- 'bluebelllaw10.PackAt': WHATEVER THE INPUT: true; the input reads as it did. -/
def packAtSpec : ChangeSpec := { name := "packAt", fn := fun _ => fun
  | [d1, d2] => { results := [.lit (.bool true)], args := [d1, d2] }
  | _ => none }
def packAtRow : OpenClaim := { program := "ytgmoccpcginieaa", sum := "1e89b9b2634e61f7e819e1ab4243ab69e3bfad7441ed3d61c3b93e474ce6c3c4", func := "bluebell/bluebelllaw10.PackAt", spec := "packAt", apart := false }
def PackAtSaid : Prop := packAtRow.holds Try.pinned (OpenSpec.ofChange packAtSpec)

/-- ITS FALSE NEIGHBOUR: 'it returns false'. Refute it at one input. -/
def packAtWrong : ChangeSpec := { name := "packAt", fn := fun _ => fun
  | [d1, d2] => { results := [.lit (.bool false)], args := [d1, d2] }
  | _ => none }
def PackAtWrongFalsely : Prop := packAtRow.holds Try.pinned (OpenSpec.ofChange packAtWrong)

/-- 'bluebelllaw10.PackWrites': WHATEVER THE INPUT: true; the input reads as it did. -/
def packWritesSpec : ChangeSpec := { name := "packWrites", fn := fun _ => fun
  | [d] => { results := [.lit (.bool true)], args := [d] }
  | _ => none }
def packWritesRow : OpenClaim := { program := "ytgmoccpcginieaa", sum := "1e89b9b2634e61f7e819e1ab4243ab69e3bfad7441ed3d61c3b93e474ce6c3c4", func := "bluebell/bluebelllaw10.PackWrites", spec := "packWrites", inPlace := ["internal/abi.NoEscape", "internal/bytealg.IndexByteString"], unfollowed := true, recurses := true, apart := false }
def PackWritesSaid : Prop := packWritesRow.holds Try.pinned (OpenSpec.ofChange packWritesSpec)

/-- ITS FALSE NEIGHBOUR: 'it returns false'. Refute it at one input. -/
def packWritesWrong : ChangeSpec := { name := "packWrites", fn := fun _ => fun
  | [d] => { results := [.lit (.bool false)], args := [d] }
  | _ => none }
def PackWritesWrongFalsely : Prop := packWritesRow.holds Try.pinned (OpenSpec.ofChange packWritesWrong)

/-- 'bluebelllaw10.PackPlain': WHATEVER THE INPUT: true; the input reads as it did. -/
def packPlainSpec : ChangeSpec := { name := "packPlain", fn := fun _ => fun
  | [d] => { results := [.lit (.bool true)], args := [d] }
  | _ => none }
def packPlainRow : OpenClaim := { program := "ytgmoccpcginieaa", sum := "1e89b9b2634e61f7e819e1ab4243ab69e3bfad7441ed3d61c3b93e474ce6c3c4", func := "bluebell/bluebelllaw10.PackPlain", spec := "packPlain", inPlace := ["internal/abi.NoEscape", "internal/bytealg.IndexByteString"], unfollowed := true, recurses := true, apart := false }
def PackPlainSaid : Prop := packPlainRow.holds Try.pinned (OpenSpec.ofChange packPlainSpec)

/-- ITS FALSE NEIGHBOUR: 'it returns false'. Refute it at one input. -/
def packPlainWrong : ChangeSpec := { name := "packPlain", fn := fun _ => fun
  | [d] => { results := [.lit (.bool false)], args := [d] }
  | _ => none }
def PackPlainWrongFalsely : Prop := packPlainRow.holds Try.pinned (OpenSpec.ofChange packPlainWrong)

/-- 'bluebelllaw10.PackForth': WHATEVER THE INPUT: true; the input reads as it did. -/
def packForthSpec : ChangeSpec := { name := "packForth", fn := fun _ => fun
  | [d] => { results := [.lit (.bool true)], args := [d] }
  | _ => none }
def packForthRow : OpenClaim := { program := "ytgmoccpcginieaa", sum := "1e89b9b2634e61f7e819e1ab4243ab69e3bfad7441ed3d61c3b93e474ce6c3c4", func := "bluebell/bluebelllaw10.PackForth", spec := "packForth", inPlace := ["internal/abi.NoEscape", "internal/bytealg.IndexByteString"], unfollowed := true, recurses := true, apart := false }
def PackForthSaid : Prop := packForthRow.holds Try.pinned (OpenSpec.ofChange packForthSpec)

/-- ITS FALSE NEIGHBOUR: 'it returns false'. Refute it at one input. -/
def packForthWrong : ChangeSpec := { name := "packForth", fn := fun _ => fun
  | [d] => { results := [.lit (.bool false)], args := [d] }
  | _ => none }
def PackForthWrongFalsely : Prop := packForthRow.holds Try.pinned (OpenSpec.ofChange packForthWrong)

/-- 'bluebelllaw10.PackHurt': WHATEVER THE INPUT: true; the input reads as it did. -/
def packHurtSpec : ChangeSpec := { name := "packHurt", fn := fun _ => fun
  | [d1, d2, d3] => { results := [.lit (.bool true)], args := [d1, d2, d3] }
  | _ => none }
def packHurtRow : OpenClaim := { program := "ytgmoccpcginieaa", sum := "1e89b9b2634e61f7e819e1ab4243ab69e3bfad7441ed3d61c3b93e474ce6c3c4", func := "bluebell/bluebelllaw10.PackHurt", spec := "packHurt", inPlace := ["internal/abi.NoEscape", "internal/bytealg.IndexByteString"], unfollowed := true, recurses := true, apart := false }
def PackHurtSaid : Prop := packHurtRow.holds Try.pinned (OpenSpec.ofChange packHurtSpec)

/-- ITS FALSE NEIGHBOUR: 'it returns false'. Refute it at one input. -/
def packHurtWrong : ChangeSpec := { name := "packHurt", fn := fun _ => fun
  | [d1, d2, d3] => { results := [.lit (.bool false)], args := [d1, d2, d3] }
  | _ => none }
def PackHurtWrongFalsely : Prop := packHurtRow.holds Try.pinned (OpenSpec.ofChange packHurtWrong)

/-- 'bluebelllaw10.PackReads': WHATEVER THE INPUT: true; the input reads as it did. -/
def packReadsSpec : ChangeSpec := { name := "packReads", fn := fun _ => fun
  | [d] => { results := [.lit (.bool true)], args := [d] }
  | _ => none }
def packReadsRow : OpenClaim := { program := "ytgmoccpcginieaa", sum := "1e89b9b2634e61f7e819e1ab4243ab69e3bfad7441ed3d61c3b93e474ce6c3c4", func := "bluebell/bluebelllaw10.PackReads", spec := "packReads", inPlace := ["internal/abi.NoEscape", "internal/bytealg.IndexByteString"], unfollowed := true, recurses := true, apart := false }
def PackReadsSaid : Prop := packReadsRow.holds Try.pinned (OpenSpec.ofChange packReadsSpec)

/-- ITS FALSE NEIGHBOUR: 'it returns false'. Refute it at one input. -/
def packReadsWrong : ChangeSpec := { name := "packReads", fn := fun _ => fun
  | [d] => { results := [.lit (.bool false)], args := [d] }
  | _ => none }
def PackReadsWrongFalsely : Prop := packReadsRow.holds Try.pinned (OpenSpec.ofChange packReadsWrong)

/-- 'bluebelllaw10.PackWalks': WHATEVER THE INPUT: true; the input reads as it did. -/
def packWalksSpec : ChangeSpec := { name := "packWalks", fn := fun _ => fun
  | [d] => { results := [.lit (.bool true)], args := [d] }
  | _ => none }
def packWalksRow : OpenClaim := { program := "ytgmoccpcginieaa", sum := "1e89b9b2634e61f7e819e1ab4243ab69e3bfad7441ed3d61c3b93e474ce6c3c4", func := "bluebell/bluebelllaw10.PackWalks", spec := "packWalks", inPlace := ["internal/abi.NoEscape", "internal/bytealg.IndexByteString"], unfollowed := true, recurses := true, apart := false }
def PackWalksSaid : Prop := packWalksRow.holds Try.pinned (OpenSpec.ofChange packWalksSpec)

/-- ITS FALSE NEIGHBOUR: 'it returns false'. Refute it at one input. -/
def packWalksWrong : ChangeSpec := { name := "packWalks", fn := fun _ => fun
  | [d] => { results := [.lit (.bool false)], args := [d] }
  | _ => none }
def PackWalksWrongFalsely : Prop := packWalksRow.holds Try.pinned (OpenSpec.ofChange packWalksWrong)

/-- 'bluebelllaw10.PackSaves': WHATEVER THE INPUT: true; the input reads as it did. -/
def packSavesSpec : ChangeSpec := { name := "packSaves", fn := fun _ => fun
  | [d] => { results := [.lit (.bool true)], args := [d] }
  | _ => none }
def packSavesRow : OpenClaim := { program := "ytgmoccpcginieaa", sum := "1e89b9b2634e61f7e819e1ab4243ab69e3bfad7441ed3d61c3b93e474ce6c3c4", func := "bluebell/bluebelllaw10.PackSaves", spec := "packSaves", inPlace := ["internal/abi.NoEscape", "internal/bytealg.IndexByteString"], unfollowed := true, recurses := true, apart := false }
def PackSavesSaid : Prop := packSavesRow.holds Try.pinned (OpenSpec.ofChange packSavesSpec)

/-- ITS FALSE NEIGHBOUR: 'it returns false'. Refute it at one input. -/
def packSavesWrong : ChangeSpec := { name := "packSaves", fn := fun _ => fun
  | [d] => { results := [.lit (.bool false)], args := [d] }
  | _ => none }
def PackSavesWrongFalsely : Prop := packSavesRow.holds Try.pinned (OpenSpec.ofChange packSavesWrong)

/-- 'bluebelllaw10.PackBack': WHATEVER THE INPUT: true; the input reads as it did. -/
def packBackSpec : ChangeSpec := { name := "packBack", fn := fun _ => fun
  | [d] => { results := [.lit (.bool true)], args := [d] }
  | _ => none }
def packBackRow : OpenClaim := { program := "ytgmoccpcginieaa", sum := "1e89b9b2634e61f7e819e1ab4243ab69e3bfad7441ed3d61c3b93e474ce6c3c4", func := "bluebell/bluebelllaw10.PackBack", spec := "packBack", inPlace := ["internal/abi.NoEscape", "internal/bytealg.IndexByteString"], unfollowed := true, recurses := true, apart := false }
def PackBackSaid : Prop := packBackRow.holds Try.pinned (OpenSpec.ofChange packBackSpec)

/-- ITS FALSE NEIGHBOUR: 'it returns false'. Refute it at one input. -/
def packBackWrong : ChangeSpec := { name := "packBack", fn := fun _ => fun
  | [d] => { results := [.lit (.bool false)], args := [d] }
  | _ => none }
def PackBackWrongFalsely : Prop := packBackRow.holds Try.pinned (OpenSpec.ofChange packBackWrong)

/- THE SECOND FORM. 'bulk': how many values and letters a reading holds, each counted each time it is reached (what is shared counts as often as it is met; a slice's spare places count too). A statement '..UptoSaid' is the law's where the arguments, and the package variables that the reading takes, are together of bulk at most 1048576: NARROWER than '..Said'. Prove '..Said' where nothing that the law and all that it calls make is longer than what came in: it says more and counts as full. Else prove '..UptoSaid'. A law counts once. -/
mutual
def uptoBulk {H : Type} : DataW H → Nat
  | .lit (.string bytes) => bytes.length + 1
  | .lit _ => 1
  | .nil => 1
  | .ptr d => uptoBulk d + 1
  | .slice elems spare => uptoBulkAll elems + uptoBulkAll spare + 1
  | .agg parts => uptoBulkAll parts + 1
  | .iface _ d => uptoBulk d + 1
  | .map entries => uptoBulkEntries entries + 1
  | .held _ => 1
def uptoBulkAll {H : Type} : List (DataW H) → Nat
  | [] => 0
  | d :: r => uptoBulk d + uptoBulkAll r
def uptoBulkEntries {H : Type} : List (Lit × DataW H) → Nat
  | [] => 0
  | x :: r => uptoBulkEntry x + uptoBulkEntries r
def uptoBulkEntry {H : Type} : Lit × DataW H → Nat
  | (.string bytes, d) => bytes.length + uptoBulk d + 1
  | (_, d) => uptoBulk d + 1
 end
def uptoSmall : (H : Type) → List (DataW H) → Bool := fun _ ds => decide (uptoBulkAll ds ≤ 1048576)
def OpenSpec.upto (s : _root_.Go.ChangeSpec) : _root_.Go.OpenSpec := { _root_.Go.OpenSpec.ofChange s with cond := some uptoSmall }

/-- 'bluebelllaw10.PackAt', WHERE WHAT IT READS IS OF BULK AT MOST 1048576: true; the input reads as it did. -/
def packAtUptoRow : OpenClaim := { program := "ytgmoccpcginieaa", sum := "1e89b9b2634e61f7e819e1ab4243ab69e3bfad7441ed3d61c3b93e474ce6c3c4", func := "bluebell/bluebelllaw10.PackAt", spec := "packAt", apart := false, narrowed := true }
def PackAtUptoSaid : Prop := packAtUptoRow.holds Try.pinned (OpenSpec.upto packAtSpec)

/-- 'bluebelllaw10.PackWrites', WHERE WHAT IT READS IS OF BULK AT MOST 1048576: true; the input reads as it did. -/
def packWritesUptoRow : OpenClaim := { program := "ytgmoccpcginieaa", sum := "1e89b9b2634e61f7e819e1ab4243ab69e3bfad7441ed3d61c3b93e474ce6c3c4", func := "bluebell/bluebelllaw10.PackWrites", spec := "packWrites", inPlace := ["internal/abi.NoEscape", "internal/bytealg.IndexByteString"], unfollowed := true, recurses := true, apart := false, narrowed := true }
def PackWritesUptoSaid : Prop := packWritesUptoRow.holds Try.pinned (OpenSpec.upto packWritesSpec)

/-- 'bluebelllaw10.PackPlain', WHERE WHAT IT READS IS OF BULK AT MOST 1048576: true; the input reads as it did. -/
def packPlainUptoRow : OpenClaim := { program := "ytgmoccpcginieaa", sum := "1e89b9b2634e61f7e819e1ab4243ab69e3bfad7441ed3d61c3b93e474ce6c3c4", func := "bluebell/bluebelllaw10.PackPlain", spec := "packPlain", inPlace := ["internal/abi.NoEscape", "internal/bytealg.IndexByteString"], unfollowed := true, recurses := true, apart := false, narrowed := true }
def PackPlainUptoSaid : Prop := packPlainUptoRow.holds Try.pinned (OpenSpec.upto packPlainSpec)

/-- 'bluebelllaw10.PackForth', WHERE WHAT IT READS IS OF BULK AT MOST 1048576: true; the input reads as it did. -/
def packForthUptoRow : OpenClaim := { program := "ytgmoccpcginieaa", sum := "1e89b9b2634e61f7e819e1ab4243ab69e3bfad7441ed3d61c3b93e474ce6c3c4", func := "bluebell/bluebelllaw10.PackForth", spec := "packForth", inPlace := ["internal/abi.NoEscape", "internal/bytealg.IndexByteString"], unfollowed := true, recurses := true, apart := false, narrowed := true }
def PackForthUptoSaid : Prop := packForthUptoRow.holds Try.pinned (OpenSpec.upto packForthSpec)

/-- 'bluebelllaw10.PackHurt', WHERE WHAT IT READS IS OF BULK AT MOST 1048576: true; the input reads as it did. -/
def packHurtUptoRow : OpenClaim := { program := "ytgmoccpcginieaa", sum := "1e89b9b2634e61f7e819e1ab4243ab69e3bfad7441ed3d61c3b93e474ce6c3c4", func := "bluebell/bluebelllaw10.PackHurt", spec := "packHurt", inPlace := ["internal/abi.NoEscape", "internal/bytealg.IndexByteString"], unfollowed := true, recurses := true, apart := false, narrowed := true }
def PackHurtUptoSaid : Prop := packHurtUptoRow.holds Try.pinned (OpenSpec.upto packHurtSpec)

/-- 'bluebelllaw10.PackReads', WHERE WHAT IT READS IS OF BULK AT MOST 1048576: true; the input reads as it did. -/
def packReadsUptoRow : OpenClaim := { program := "ytgmoccpcginieaa", sum := "1e89b9b2634e61f7e819e1ab4243ab69e3bfad7441ed3d61c3b93e474ce6c3c4", func := "bluebell/bluebelllaw10.PackReads", spec := "packReads", inPlace := ["internal/abi.NoEscape", "internal/bytealg.IndexByteString"], unfollowed := true, recurses := true, apart := false, narrowed := true }
def PackReadsUptoSaid : Prop := packReadsUptoRow.holds Try.pinned (OpenSpec.upto packReadsSpec)

/-- 'bluebelllaw10.PackWalks', WHERE WHAT IT READS IS OF BULK AT MOST 1048576: true; the input reads as it did. -/
def packWalksUptoRow : OpenClaim := { program := "ytgmoccpcginieaa", sum := "1e89b9b2634e61f7e819e1ab4243ab69e3bfad7441ed3d61c3b93e474ce6c3c4", func := "bluebell/bluebelllaw10.PackWalks", spec := "packWalks", inPlace := ["internal/abi.NoEscape", "internal/bytealg.IndexByteString"], unfollowed := true, recurses := true, apart := false, narrowed := true }
def PackWalksUptoSaid : Prop := packWalksUptoRow.holds Try.pinned (OpenSpec.upto packWalksSpec)

/-- 'bluebelllaw10.PackSaves', WHERE WHAT IT READS IS OF BULK AT MOST 1048576: true; the input reads as it did. -/
def packSavesUptoRow : OpenClaim := { program := "ytgmoccpcginieaa", sum := "1e89b9b2634e61f7e819e1ab4243ab69e3bfad7441ed3d61c3b93e474ce6c3c4", func := "bluebell/bluebelllaw10.PackSaves", spec := "packSaves", inPlace := ["internal/abi.NoEscape", "internal/bytealg.IndexByteString"], unfollowed := true, recurses := true, apart := false, narrowed := true }
def PackSavesUptoSaid : Prop := packSavesUptoRow.holds Try.pinned (OpenSpec.upto packSavesSpec)

/-- 'bluebelllaw10.PackBack', WHERE WHAT IT READS IS OF BULK AT MOST 1048576: true; the input reads as it did. -/
def packBackUptoRow : OpenClaim := { program := "ytgmoccpcginieaa", sum := "1e89b9b2634e61f7e819e1ab4243ab69e3bfad7441ed3d61c3b93e474ce6c3c4", func := "bluebell/bluebelllaw10.PackBack", spec := "packBack", inPlace := ["internal/abi.NoEscape", "internal/bytealg.IndexByteString"], unfollowed := true, recurses := true, apart := false, narrowed := true }
def PackBackUptoSaid : Prop := packBackUptoRow.holds Try.pinned (OpenSpec.upto packBackSpec)

end Rows
end Go.Proofs.Ytgmoccpcginieaa
