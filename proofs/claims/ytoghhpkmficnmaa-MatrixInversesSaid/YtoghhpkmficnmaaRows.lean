/-
  No cell of these rows narrows 'for every input' (looked for: loops, veiled, ifaces, maps, wideKeys, modest, calm, conditions, laid).
  DERIVED. THE GIVEN ROWS OF THIS SEAT. 8 by the template 'for every input the law returns true; each argument reads behind the call as it read before'; 0 by the template 'total and deterministic' (their statements: YtoghhpkmficnmaaTotals.lean).
  GIVEN WITH THE SEED: the statements are not yours to turn. If you find one false, say at which input.
  Laid BY PROGRAM, IN A SANDBOX (cutbox-rows.mjs): the forced cells as the released guide's own fill.sh prints them over the translation ab6faf32fc7ceaaa… (all of the seat's roots in one cut). By AI agents, Wed Nov 11 2026. No macro, syntax, notation, axiom, sorry.
-/
import Derived.Test.YtoghhpkmficnmaaChecked
import GoSem.Claim
import GoSem.ClaimJoined
import GoSem.ClaimMapViews
import Derived.JoinedTies
import Derived.KernelRfl
namespace Go.Proofs.Ytoghhpkmficnmaa
/- THE CELL 'sum', in the pinned program and in every row, IS THE sha256 OF THE DUMP (.gsa) THAT YtoghhpkmficnmaaProg.lean LOADS. Nothing in Lean hashes anything: it is a label: what it is worth is what the hold of that sum in a sandbox is worth. -/
noncomputable def Try.pinned : Pinned := { name := "ytoghhpkmficnmaa", sum := "ab6faf32fc7ceaaa6e1be8c7ff2eb71bbe18b3cbb2eeca8159440782a2d4dc71", checked := Try.checked }
namespace Rows
def none {H : Type} : Left H := { results := [], args := [] }

/-- 'corncriblaw02.MatrixGenerators': WHATEVER THE INPUT: true; the input reads as it did. -/
def matrixGeneratorsSpec : ChangeSpec := { name := "matrixGenerators", fn := fun _ => fun
  | [d1, d2] => { results := [.lit (.bool true)], args := [d1, d2] }
  | _ => none }
def matrixGeneratorsRow : OpenClaim := { program := "ytoghhpkmficnmaa", sum := "ab6faf32fc7ceaaa6e1be8c7ff2eb71bbe18b3cbb2eeca8159440782a2d4dc71", func := "corncrib/corncriblaw02.MatrixGenerators", spec := "matrixGenerators", inPlace := ["internal/bytealg.MakeNoZero"], apart := false }
def MatrixGeneratorsSaid : Prop := matrixGeneratorsRow.holds Try.pinned (OpenSpec.ofChange matrixGeneratorsSpec)

/-- ITS FALSE NEIGHBOUR: 'it returns false'. Refute it at one input. -/
def matrixGeneratorsWrong : ChangeSpec := { name := "matrixGenerators", fn := fun _ => fun
  | [d1, d2] => { results := [.lit (.bool false)], args := [d1, d2] }
  | _ => none }
def MatrixGeneratorsWrongFalsely : Prop := matrixGeneratorsRow.holds Try.pinned (OpenSpec.ofChange matrixGeneratorsWrong)

/-- 'corncriblaw02.MatrixPicks': WHATEVER THE INPUT: true; the input reads as it did. -/
def matrixPicksSpec : ChangeSpec := { name := "matrixPicks", fn := fun _ => fun
  | [d1, d2] => { results := [.lit (.bool true)], args := [d1, d2] }
  | _ => none }
def matrixPicksRow : OpenClaim := { program := "ytoghhpkmficnmaa", sum := "ab6faf32fc7ceaaa6e1be8c7ff2eb71bbe18b3cbb2eeca8159440782a2d4dc71", func := "corncrib/corncriblaw02.MatrixPicks", spec := "matrixPicks", inPlace := ["internal/bytealg.MakeNoZero"], apart := false }
def MatrixPicksSaid : Prop := matrixPicksRow.holds Try.pinned (OpenSpec.ofChange matrixPicksSpec)

/-- ITS FALSE NEIGHBOUR: 'it returns false'. Refute it at one input. -/
def matrixPicksWrong : ChangeSpec := { name := "matrixPicks", fn := fun _ => fun
  | [d1, d2] => { results := [.lit (.bool false)], args := [d1, d2] }
  | _ => none }
def MatrixPicksWrongFalsely : Prop := matrixPicksRow.holds Try.pinned (OpenSpec.ofChange matrixPicksWrong)

/-- 'corncriblaw02.MatrixProducts': WHATEVER THE INPUT: true; the input reads as it did. -/
def matrixProductsSpec : ChangeSpec := { name := "matrixProducts", fn := fun _ => fun
  | [d1, d2, d3] => { results := [.lit (.bool true)], args := [d1, d2, d3] }
  | _ => none }
def matrixProductsRow : OpenClaim := { program := "ytoghhpkmficnmaa", sum := "ab6faf32fc7ceaaa6e1be8c7ff2eb71bbe18b3cbb2eeca8159440782a2d4dc71", func := "corncrib/corncriblaw02.MatrixProducts", spec := "matrixProducts", inPlace := ["internal/bytealg.MakeNoZero"], apart := false }
def MatrixProductsSaid : Prop := matrixProductsRow.holds Try.pinned (OpenSpec.ofChange matrixProductsSpec)

/-- ITS FALSE NEIGHBOUR: 'it returns false'. Refute it at one input. -/
def matrixProductsWrong : ChangeSpec := { name := "matrixProducts", fn := fun _ => fun
  | [d1, d2, d3] => { results := [.lit (.bool false)], args := [d1, d2, d3] }
  | _ => none }
def MatrixProductsWrongFalsely : Prop := matrixProductsRow.holds Try.pinned (OpenSpec.ofChange matrixProductsWrong)

/-- 'corncriblaw02.MatrixRing': WHATEVER THE INPUT: true; the input reads as it did. -/
def matrixRingSpec : ChangeSpec := { name := "matrixRing", fn := fun _ => fun
  | [d1, d2, d3] => { results := [.lit (.bool true)], args := [d1, d2, d3] }
  | _ => none }
def matrixRingRow : OpenClaim := { program := "ytoghhpkmficnmaa", sum := "ab6faf32fc7ceaaa6e1be8c7ff2eb71bbe18b3cbb2eeca8159440782a2d4dc71", func := "corncrib/corncriblaw02.MatrixRing", spec := "matrixRing", inPlace := ["internal/bytealg.MakeNoZero"], apart := false }
def MatrixRingSaid : Prop := matrixRingRow.holds Try.pinned (OpenSpec.ofChange matrixRingSpec)

/-- ITS FALSE NEIGHBOUR: 'it returns false'. Refute it at one input. -/
def matrixRingWrong : ChangeSpec := { name := "matrixRing", fn := fun _ => fun
  | [d1, d2, d3] => { results := [.lit (.bool false)], args := [d1, d2, d3] }
  | _ => none }
def MatrixRingWrongFalsely : Prop := matrixRingRow.holds Try.pinned (OpenSpec.ofChange matrixRingWrong)

/-- 'corncriblaw02.MatrixRows': WHATEVER THE INPUT: true; the input reads as it did. -/
def matrixRowsSpec : ChangeSpec := { name := "matrixRows", fn := fun _ => fun
  | [d1, d2, d3] => { results := [.lit (.bool true)], args := [d1, d2, d3] }
  | _ => none }
def matrixRowsRow : OpenClaim := { program := "ytoghhpkmficnmaa", sum := "ab6faf32fc7ceaaa6e1be8c7ff2eb71bbe18b3cbb2eeca8159440782a2d4dc71", func := "corncrib/corncriblaw02.MatrixRows", spec := "matrixRows", inPlace := ["internal/bytealg.MakeNoZero"], apart := false }
def MatrixRowsSaid : Prop := matrixRowsRow.holds Try.pinned (OpenSpec.ofChange matrixRowsSpec)

/-- ITS FALSE NEIGHBOUR: 'it returns false'. Refute it at one input. -/
def matrixRowsWrong : ChangeSpec := { name := "matrixRows", fn := fun _ => fun
  | [d1, d2, d3] => { results := [.lit (.bool false)], args := [d1, d2, d3] }
  | _ => none }
def MatrixRowsWrongFalsely : Prop := matrixRowsRow.holds Try.pinned (OpenSpec.ofChange matrixRowsWrong)

/-- 'corncriblaw02.MatrixInverses': WHATEVER THE INPUT: true; the input reads as it did. -/
def matrixInversesSpec : ChangeSpec := { name := "matrixInverses", fn := fun _ => fun
  | [d] => { results := [.lit (.bool true)], args := [d] }
  | _ => none }
def matrixInversesRow : OpenClaim := { program := "ytoghhpkmficnmaa", sum := "ab6faf32fc7ceaaa6e1be8c7ff2eb71bbe18b3cbb2eeca8159440782a2d4dc71", func := "corncrib/corncriblaw02.MatrixInverses", spec := "matrixInverses", inPlace := ["internal/bytealg.MakeNoZero"], unfollowed := true, recurses := true, apart := false }
def MatrixInversesSaid : Prop := matrixInversesRow.holds Try.pinned (OpenSpec.ofChange matrixInversesSpec)

/-- ITS FALSE NEIGHBOUR: 'it returns false'. Refute it at one input. -/
def matrixInversesWrong : ChangeSpec := { name := "matrixInverses", fn := fun _ => fun
  | [d] => { results := [.lit (.bool false)], args := [d] }
  | _ => none }
def MatrixInversesWrongFalsely : Prop := matrixInversesRow.holds Try.pinned (OpenSpec.ofChange matrixInversesWrong)

/-- 'corncriblaw02.MatrixAny': WHATEVER THE INPUT: true; the input reads as it did. -/
def matrixAnySpec : ChangeSpec := { name := "matrixAny", fn := fun _ => fun
  | [d1, d2, d3] => { results := [.lit (.bool true)], args := [d1, d2, d3] }
  | _ => none }
def matrixAnyRow : OpenClaim := { program := "ytoghhpkmficnmaa", sum := "ab6faf32fc7ceaaa6e1be8c7ff2eb71bbe18b3cbb2eeca8159440782a2d4dc71", func := "corncrib/corncriblaw02.MatrixAny", spec := "matrixAny", inPlace := ["internal/bytealg.MakeNoZero"], unfollowed := true, recurses := true, apart := false }
def MatrixAnySaid : Prop := matrixAnyRow.holds Try.pinned (OpenSpec.ofChange matrixAnySpec)

/-- ITS FALSE NEIGHBOUR: 'it returns false'. Refute it at one input. -/
def matrixAnyWrong : ChangeSpec := { name := "matrixAny", fn := fun _ => fun
  | [d1, d2, d3] => { results := [.lit (.bool false)], args := [d1, d2, d3] }
  | _ => none }
def MatrixAnyWrongFalsely : Prop := matrixAnyRow.holds Try.pinned (OpenSpec.ofChange matrixAnyWrong)

/-- 'corncriblaw02.MatrixBack': WHATEVER THE INPUT: true; the input reads as it did. -/
def matrixBackSpec : ChangeSpec := { name := "matrixBack", fn := fun _ => fun
  | [d1, d2] => { results := [.lit (.bool true)], args := [d1, d2] }
  | _ => none }
def matrixBackRow : OpenClaim := { program := "ytoghhpkmficnmaa", sum := "ab6faf32fc7ceaaa6e1be8c7ff2eb71bbe18b3cbb2eeca8159440782a2d4dc71", func := "corncrib/corncriblaw02.MatrixBack", spec := "matrixBack", inPlace := ["internal/bytealg.MakeNoZero"], unfollowed := true, recurses := true, apart := false }
def MatrixBackSaid : Prop := matrixBackRow.holds Try.pinned (OpenSpec.ofChange matrixBackSpec)

/-- ITS FALSE NEIGHBOUR: 'it returns false'. Refute it at one input. -/
def matrixBackWrong : ChangeSpec := { name := "matrixBack", fn := fun _ => fun
  | [d1, d2] => { results := [.lit (.bool false)], args := [d1, d2] }
  | _ => none }
def MatrixBackWrongFalsely : Prop := matrixBackRow.holds Try.pinned (OpenSpec.ofChange matrixBackWrong)

/- THE SECOND FORM. 'bulk': how many values and letters a reading holds, each counted each time it is reached (what is shared counts as often as it is met; a slice's spare places count too). A statement '..UptoSaid' is the law's where the arguments, and the package variables that the reading takes, are together of bulk at most 1048576: NARROWER than '..Said'. Prove '..Said' where nothing that the law and all that it calls make is longer than what came in: it says more and counts as full. Else prove '..UptoSaid'. A law counts once. -/
mutual
def uptoBulk {H : Type} : DataW H → Nat
  | .lit (.string bytes) => bytes.length + 1
  | .lit _ => 1
  | .nil => 1
  | .ptr d => uptoBulk d + 1
  | .slice elems spare => uptoBulkAll elems + uptoBulkAll spare + 1
  | .agg parts => uptoBulkAll parts + 1
  | .iface _ d => uptoBulk d + 1
  | .map entries => uptoBulkEntries entries + 1
  | .held _ => 1
def uptoBulkAll {H : Type} : List (DataW H) → Nat
  | [] => 0
  | d :: r => uptoBulk d + uptoBulkAll r
def uptoBulkEntries {H : Type} : List (Lit × DataW H) → Nat
  | [] => 0
  | x :: r => uptoBulkEntry x + uptoBulkEntries r
def uptoBulkEntry {H : Type} : Lit × DataW H → Nat
  | (.string bytes, d) => bytes.length + uptoBulk d + 1
  | (_, d) => uptoBulk d + 1
 end
def uptoSmall : (H : Type) → List (DataW H) → Bool := fun _ ds => decide (uptoBulkAll ds ≤ 1048576)
def OpenSpec.upto (s : _root_.Go.ChangeSpec) : _root_.Go.OpenSpec := { _root_.Go.OpenSpec.ofChange s with cond := some uptoSmall }

/-- 'corncriblaw02.MatrixGenerators', WHERE WHAT IT READS IS OF BULK AT MOST 1048576: true; the input reads as it did. -/
def matrixGeneratorsUptoRow : OpenClaim := { program := "ytoghhpkmficnmaa", sum := "ab6faf32fc7ceaaa6e1be8c7ff2eb71bbe18b3cbb2eeca8159440782a2d4dc71", func := "corncrib/corncriblaw02.MatrixGenerators", spec := "matrixGenerators", inPlace := ["internal/bytealg.MakeNoZero"], apart := false, narrowed := true }
def MatrixGeneratorsUptoSaid : Prop := matrixGeneratorsUptoRow.holds Try.pinned (OpenSpec.upto matrixGeneratorsSpec)

/-- 'corncriblaw02.MatrixPicks', WHERE WHAT IT READS IS OF BULK AT MOST 1048576: true; the input reads as it did. -/
def matrixPicksUptoRow : OpenClaim := { program := "ytoghhpkmficnmaa", sum := "ab6faf32fc7ceaaa6e1be8c7ff2eb71bbe18b3cbb2eeca8159440782a2d4dc71", func := "corncrib/corncriblaw02.MatrixPicks", spec := "matrixPicks", inPlace := ["internal/bytealg.MakeNoZero"], apart := false, narrowed := true }
def MatrixPicksUptoSaid : Prop := matrixPicksUptoRow.holds Try.pinned (OpenSpec.upto matrixPicksSpec)

/-- 'corncriblaw02.MatrixProducts', WHERE WHAT IT READS IS OF BULK AT MOST 1048576: true; the input reads as it did. -/
def matrixProductsUptoRow : OpenClaim := { program := "ytoghhpkmficnmaa", sum := "ab6faf32fc7ceaaa6e1be8c7ff2eb71bbe18b3cbb2eeca8159440782a2d4dc71", func := "corncrib/corncriblaw02.MatrixProducts", spec := "matrixProducts", inPlace := ["internal/bytealg.MakeNoZero"], apart := false, narrowed := true }
def MatrixProductsUptoSaid : Prop := matrixProductsUptoRow.holds Try.pinned (OpenSpec.upto matrixProductsSpec)

/-- 'corncriblaw02.MatrixRing', WHERE WHAT IT READS IS OF BULK AT MOST 1048576: true; the input reads as it did. -/
def matrixRingUptoRow : OpenClaim := { program := "ytoghhpkmficnmaa", sum := "ab6faf32fc7ceaaa6e1be8c7ff2eb71bbe18b3cbb2eeca8159440782a2d4dc71", func := "corncrib/corncriblaw02.MatrixRing", spec := "matrixRing", inPlace := ["internal/bytealg.MakeNoZero"], apart := false, narrowed := true }
def MatrixRingUptoSaid : Prop := matrixRingUptoRow.holds Try.pinned (OpenSpec.upto matrixRingSpec)

/-- 'corncriblaw02.MatrixRows', WHERE WHAT IT READS IS OF BULK AT MOST 1048576: true; the input reads as it did. -/
def matrixRowsUptoRow : OpenClaim := { program := "ytoghhpkmficnmaa", sum := "ab6faf32fc7ceaaa6e1be8c7ff2eb71bbe18b3cbb2eeca8159440782a2d4dc71", func := "corncrib/corncriblaw02.MatrixRows", spec := "matrixRows", inPlace := ["internal/bytealg.MakeNoZero"], apart := false, narrowed := true }
def MatrixRowsUptoSaid : Prop := matrixRowsUptoRow.holds Try.pinned (OpenSpec.upto matrixRowsSpec)

/-- 'corncriblaw02.MatrixInverses', WHERE WHAT IT READS IS OF BULK AT MOST 1048576: true; the input reads as it did. -/
def matrixInversesUptoRow : OpenClaim := { program := "ytoghhpkmficnmaa", sum := "ab6faf32fc7ceaaa6e1be8c7ff2eb71bbe18b3cbb2eeca8159440782a2d4dc71", func := "corncrib/corncriblaw02.MatrixInverses", spec := "matrixInverses", inPlace := ["internal/bytealg.MakeNoZero"], unfollowed := true, recurses := true, apart := false, narrowed := true }
def MatrixInversesUptoSaid : Prop := matrixInversesUptoRow.holds Try.pinned (OpenSpec.upto matrixInversesSpec)

/-- 'corncriblaw02.MatrixAny', WHERE WHAT IT READS IS OF BULK AT MOST 1048576: true; the input reads as it did. -/
def matrixAnyUptoRow : OpenClaim := { program := "ytoghhpkmficnmaa", sum := "ab6faf32fc7ceaaa6e1be8c7ff2eb71bbe18b3cbb2eeca8159440782a2d4dc71", func := "corncrib/corncriblaw02.MatrixAny", spec := "matrixAny", inPlace := ["internal/bytealg.MakeNoZero"], unfollowed := true, recurses := true, apart := false, narrowed := true }
def MatrixAnyUptoSaid : Prop := matrixAnyUptoRow.holds Try.pinned (OpenSpec.upto matrixAnySpec)

/-- 'corncriblaw02.MatrixBack', WHERE WHAT IT READS IS OF BULK AT MOST 1048576: true; the input reads as it did. -/
def matrixBackUptoRow : OpenClaim := { program := "ytoghhpkmficnmaa", sum := "ab6faf32fc7ceaaa6e1be8c7ff2eb71bbe18b3cbb2eeca8159440782a2d4dc71", func := "corncrib/corncriblaw02.MatrixBack", spec := "matrixBack", inPlace := ["internal/bytealg.MakeNoZero"], unfollowed := true, recurses := true, apart := false, narrowed := true }
def MatrixBackUptoSaid : Prop := matrixBackUptoRow.holds Try.pinned (OpenSpec.upto matrixBackSpec)

end Rows
end Go.Proofs.Ytoghhpkmficnmaa
