/-
  No cell of these rows narrows 'for every input' (looked for: loops, veiled, ifaces, maps, wideKeys, modest, calm, conditions, laid).
  DERIVED. THE GIVEN ROWS OF THIS SEAT. 6 by the template 'for every input the law returns true; each argument reads behind the call as it read before'; 0 by the template 'total and deterministic' (their statements: YtelgpkbnahgdoaaTotals.lean).
  GIVEN WITH THE SEED: the statements are not yours to turn. If you find one false, say at which input.
  Laid BY PROGRAM, IN A SANDBOX (cutbox-rows.mjs): the forced cells as the released guide's own fill.sh prints them over the translation ba54938d409deca8… (all of the seat's roots in one cut). By AI agents, Wed Nov 11 2026. No macro, syntax, notation, axiom, sorry.
-/
import Derived.Test.YtelgpkbnahgdoaaChecked
import GoSem.Claim
import GoSem.ClaimJoined
import GoSem.ClaimMapViews
import Derived.JoinedTies
import Derived.KernelRfl
namespace Go.Proofs.Ytelgpkbnahgdoaa
/- THE CELL 'sum', in the pinned program and in every row, IS THE sha256 OF THE DUMP (.gsa) THAT YtelgpkbnahgdoaaProg.lean LOADS. Nothing in Lean hashes anything: it is a label: what it is worth is what the hold of that sum in a sandbox is worth. -/
noncomputable def Try.pinned : Pinned := { name := "ytelgpkbnahgdoaa", sum := "ba54938d409deca8e1830a9c444bb0471dcfaf155dde311bf01cda186f42c358", checked := Try.checked }
namespace Rows
def none {H : Type} : Left H := { results := [], args := [] }

/-- 'corncriblaw07.LetterWrites': WHATEVER THE INPUT: true; the input reads as it did. -/
def letterWritesSpec : ChangeSpec := { name := "letterWrites", fn := fun _ => fun
  | [d] => { results := [.lit (.bool true)], args := [d] }
  | _ => none }
def letterWritesRow : OpenClaim := { program := "ytelgpkbnahgdoaa", sum := "ba54938d409deca8e1830a9c444bb0471dcfaf155dde311bf01cda186f42c358", func := "corncrib/corncriblaw07.LetterWrites", spec := "letterWrites", apart := false }
def LetterWritesSaid : Prop := letterWritesRow.holds Try.pinned (OpenSpec.ofChange letterWritesSpec)

/-- ITS FALSE NEIGHBOUR: 'it returns false'. Refute it at one input. -/
def letterWritesWrong : ChangeSpec := { name := "letterWrites", fn := fun _ => fun
  | [d] => { results := [.lit (.bool false)], args := [d] }
  | _ => none }
def LetterWritesWrongFalsely : Prop := letterWritesRow.holds Try.pinned (OpenSpec.ofChange letterWritesWrong)

/-- 'corncriblaw07.LetterKeys': WHATEVER THE INPUT: true; the input reads as it did. -/
def letterKeysSpec : ChangeSpec := { name := "letterKeys", fn := fun _ => fun
  | [d1, d2] => { results := [.lit (.bool true)], args := [d1, d2] }
  | _ => none }
def letterKeysRow : OpenClaim := { program := "ytelgpkbnahgdoaa", sum := "ba54938d409deca8e1830a9c444bb0471dcfaf155dde311bf01cda186f42c358", func := "corncrib/corncriblaw07.LetterKeys", spec := "letterKeys", apart := false }
def LetterKeysSaid : Prop := letterKeysRow.holds Try.pinned (OpenSpec.ofChange letterKeysSpec)

/-- ITS FALSE NEIGHBOUR: 'it returns false'. Refute it at one input. -/
def letterKeysWrong : ChangeSpec := { name := "letterKeys", fn := fun _ => fun
  | [d1, d2] => { results := [.lit (.bool false)], args := [d1, d2] }
  | _ => none }
def LetterKeysWrongFalsely : Prop := letterKeysRow.holds Try.pinned (OpenSpec.ofChange letterKeysWrong)

/-- 'corncriblaw07.LetterOther': WHATEVER THE INPUT: true; the input reads as it did. -/
def letterOtherSpec : ChangeSpec := { name := "letterOther", fn := fun _ => fun
  | [d] => { results := [.lit (.bool true)], args := [d] }
  | _ => none }
def letterOtherRow : OpenClaim := { program := "ytelgpkbnahgdoaa", sum := "ba54938d409deca8e1830a9c444bb0471dcfaf155dde311bf01cda186f42c358", func := "corncrib/corncriblaw07.LetterOther", spec := "letterOther", apart := false }
def LetterOtherSaid : Prop := letterOtherRow.holds Try.pinned (OpenSpec.ofChange letterOtherSpec)

/-- ITS FALSE NEIGHBOUR: 'it returns false'. Refute it at one input. -/
def letterOtherWrong : ChangeSpec := { name := "letterOther", fn := fun _ => fun
  | [d] => { results := [.lit (.bool false)], args := [d] }
  | _ => none }
def LetterOtherWrongFalsely : Prop := letterOtherRow.holds Try.pinned (OpenSpec.ofChange letterOtherWrong)

/-- 'corncriblaw07.LetterRising': WHATEVER THE INPUT: true; the input reads as it did. -/
def letterRisingSpec : ChangeSpec := { name := "letterRising", fn := fun _ => fun
  | [d1, d2] => { results := [.lit (.bool true)], args := [d1, d2] }
  | _ => none }
def letterRisingRow : OpenClaim := { program := "ytelgpkbnahgdoaa", sum := "ba54938d409deca8e1830a9c444bb0471dcfaf155dde311bf01cda186f42c358", func := "corncrib/corncriblaw07.LetterRising", spec := "letterRising", apart := false }
def LetterRisingSaid : Prop := letterRisingRow.holds Try.pinned (OpenSpec.ofChange letterRisingSpec)

/-- ITS FALSE NEIGHBOUR: 'it returns false'. Refute it at one input. -/
def letterRisingWrong : ChangeSpec := { name := "letterRising", fn := fun _ => fun
  | [d1, d2] => { results := [.lit (.bool false)], args := [d1, d2] }
  | _ => none }
def LetterRisingWrongFalsely : Prop := letterRisingRow.holds Try.pinned (OpenSpec.ofChange letterRisingWrong)

/-- 'corncriblaw07.LetterReads': WHATEVER THE INPUT: true; the input reads as it did. -/
def letterReadsSpec : ChangeSpec := { name := "letterReads", fn := fun _ => fun
  | [d] => { results := [.lit (.bool true)], args := [d] }
  | _ => none }
def letterReadsRow : OpenClaim := { program := "ytelgpkbnahgdoaa", sum := "ba54938d409deca8e1830a9c444bb0471dcfaf155dde311bf01cda186f42c358", func := "corncrib/corncriblaw07.LetterReads", spec := "letterReads", apart := false }
def LetterReadsSaid : Prop := letterReadsRow.holds Try.pinned (OpenSpec.ofChange letterReadsSpec)

/-- ITS FALSE NEIGHBOUR: 'it returns false'. Refute it at one input. -/
def letterReadsWrong : ChangeSpec := { name := "letterReads", fn := fun _ => fun
  | [d] => { results := [.lit (.bool false)], args := [d] }
  | _ => none }
def LetterReadsWrongFalsely : Prop := letterReadsRow.holds Try.pinned (OpenSpec.ofChange letterReadsWrong)

/-- 'corncriblaw07.LetterBack': WHATEVER THE INPUT: true; the input reads as it did. -/
def letterBackSpec : ChangeSpec := { name := "letterBack", fn := fun _ => fun
  | [d1, d2] => { results := [.lit (.bool true)], args := [d1, d2] }
  | _ => none }
def letterBackRow : OpenClaim := { program := "ytelgpkbnahgdoaa", sum := "ba54938d409deca8e1830a9c444bb0471dcfaf155dde311bf01cda186f42c358", func := "corncrib/corncriblaw07.LetterBack", spec := "letterBack", apart := false }
def LetterBackSaid : Prop := letterBackRow.holds Try.pinned (OpenSpec.ofChange letterBackSpec)

/-- ITS FALSE NEIGHBOUR: 'it returns false'. Refute it at one input. -/
def letterBackWrong : ChangeSpec := { name := "letterBack", fn := fun _ => fun
  | [d1, d2] => { results := [.lit (.bool false)], args := [d1, d2] }
  | _ => none }
def LetterBackWrongFalsely : Prop := letterBackRow.holds Try.pinned (OpenSpec.ofChange letterBackWrong)

/- THE SECOND FORM. 'bulk': how many values and letters a reading holds, each counted each time it is reached (what is shared counts as often as it is met; a slice's spare places count too). A statement '..UptoSaid' is the law's where the arguments, and the package variables that the reading takes, are together of bulk at most 1048576: NARROWER than '..Said'. Prove '..Said' where nothing that the law and all that it calls make is longer than what came in: it says more and counts as full. Else prove '..UptoSaid'. A law counts once. -/
mutual
def uptoBulk {H : Type} : DataW H → Nat
  | .lit (.string bytes) => bytes.length + 1
  | .lit _ => 1
  | .nil => 1
  | .ptr d => uptoBulk d + 1
  | .slice elems spare => uptoBulkAll elems + uptoBulkAll spare + 1
  | .agg parts => uptoBulkAll parts + 1
  | .iface _ d => uptoBulk d + 1
  | .map entries => uptoBulkEntries entries + 1
  | .held _ => 1
def uptoBulkAll {H : Type} : List (DataW H) → Nat
  | [] => 0
  | d :: r => uptoBulk d + uptoBulkAll r
def uptoBulkEntries {H : Type} : List (Lit × DataW H) → Nat
  | [] => 0
  | x :: r => uptoBulkEntry x + uptoBulkEntries r
def uptoBulkEntry {H : Type} : Lit × DataW H → Nat
  | (.string bytes, d) => bytes.length + uptoBulk d + 1
  | (_, d) => uptoBulk d + 1
 end
def uptoSmall : (H : Type) → List (DataW H) → Bool := fun _ ds => decide (uptoBulkAll ds ≤ 1048576)
def OpenSpec.upto (s : _root_.Go.ChangeSpec) : _root_.Go.OpenSpec := { _root_.Go.OpenSpec.ofChange s with cond := some uptoSmall }

/-- 'corncriblaw07.LetterWrites', WHERE WHAT IT READS IS OF BULK AT MOST 1048576: true; the input reads as it did. -/
def letterWritesUptoRow : OpenClaim := { program := "ytelgpkbnahgdoaa", sum := "ba54938d409deca8e1830a9c444bb0471dcfaf155dde311bf01cda186f42c358", func := "corncrib/corncriblaw07.LetterWrites", spec := "letterWrites", apart := false, narrowed := true }
def LetterWritesUptoSaid : Prop := letterWritesUptoRow.holds Try.pinned (OpenSpec.upto letterWritesSpec)

/-- 'corncriblaw07.LetterKeys', WHERE WHAT IT READS IS OF BULK AT MOST 1048576: true; the input reads as it did. -/
def letterKeysUptoRow : OpenClaim := { program := "ytelgpkbnahgdoaa", sum := "ba54938d409deca8e1830a9c444bb0471dcfaf155dde311bf01cda186f42c358", func := "corncrib/corncriblaw07.LetterKeys", spec := "letterKeys", apart := false, narrowed := true }
def LetterKeysUptoSaid : Prop := letterKeysUptoRow.holds Try.pinned (OpenSpec.upto letterKeysSpec)

/-- 'corncriblaw07.LetterOther', WHERE WHAT IT READS IS OF BULK AT MOST 1048576: true; the input reads as it did. -/
def letterOtherUptoRow : OpenClaim := { program := "ytelgpkbnahgdoaa", sum := "ba54938d409deca8e1830a9c444bb0471dcfaf155dde311bf01cda186f42c358", func := "corncrib/corncriblaw07.LetterOther", spec := "letterOther", apart := false, narrowed := true }
def LetterOtherUptoSaid : Prop := letterOtherUptoRow.holds Try.pinned (OpenSpec.upto letterOtherSpec)

/-- 'corncriblaw07.LetterRising', WHERE WHAT IT READS IS OF BULK AT MOST 1048576: true; the input reads as it did. -/
def letterRisingUptoRow : OpenClaim := { program := "ytelgpkbnahgdoaa", sum := "ba54938d409deca8e1830a9c444bb0471dcfaf155dde311bf01cda186f42c358", func := "corncrib/corncriblaw07.LetterRising", spec := "letterRising", apart := false, narrowed := true }
def LetterRisingUptoSaid : Prop := letterRisingUptoRow.holds Try.pinned (OpenSpec.upto letterRisingSpec)

/-- 'corncriblaw07.LetterReads', WHERE WHAT IT READS IS OF BULK AT MOST 1048576: true; the input reads as it did. -/
def letterReadsUptoRow : OpenClaim := { program := "ytelgpkbnahgdoaa", sum := "ba54938d409deca8e1830a9c444bb0471dcfaf155dde311bf01cda186f42c358", func := "corncrib/corncriblaw07.LetterReads", spec := "letterReads", apart := false, narrowed := true }
def LetterReadsUptoSaid : Prop := letterReadsUptoRow.holds Try.pinned (OpenSpec.upto letterReadsSpec)

/-- 'corncriblaw07.LetterBack', WHERE WHAT IT READS IS OF BULK AT MOST 1048576: true; the input reads as it did. -/
def letterBackUptoRow : OpenClaim := { program := "ytelgpkbnahgdoaa", sum := "ba54938d409deca8e1830a9c444bb0471dcfaf155dde311bf01cda186f42c358", func := "corncrib/corncriblaw07.LetterBack", spec := "letterBack", apart := false, narrowed := true }
def LetterBackUptoSaid : Prop := letterBackUptoRow.holds Try.pinned (OpenSpec.upto letterBackSpec)

end Rows
end Go.Proofs.Ytelgpkbnahgdoaa
