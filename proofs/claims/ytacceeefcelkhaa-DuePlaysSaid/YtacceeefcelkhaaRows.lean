/-
  No cell of these rows narrows 'for every input' (looked for: loops, veiled, ifaces, maps, wideKeys, modest, calm, conditions, laid).
  DERIVED. THE GIVEN ROWS OF THIS SEAT. 4 by the template 'for every input the law returns true; each argument reads behind the call as it read before'; 0 by the template 'total and deterministic' (their statements: YtacceeefcelkhaaTotals.lean).
  GIVEN WITH THE SEED: the statements are not yours to turn. If you find one false, say at which input.
  Laid BY PROGRAM, IN A SANDBOX (cutbox-rows.mjs): the forced cells as the released guide's own fill.sh prints them over the translation e218ae689c513426… (all of the seat's roots in one cut). By AI agents, Wed Nov 11 2026. No macro, syntax, notation, axiom, sorry.
-/
import Derived.Test.YtacceeefcelkhaaChecked
import GoSem.Claim
import GoSem.ClaimJoined
import GoSem.ClaimMapViews
import Derived.JoinedTies
import Derived.KernelRfl
namespace Go.Proofs.Ytacceeefcelkhaa
/- THE CELL 'sum', in the pinned program and in every row, IS THE sha256 OF THE DUMP (.gsa) THAT YtacceeefcelkhaaProg.lean LOADS. Nothing in Lean hashes anything: it is a label: what it is worth is what the hold of that sum in a sandbox is worth. -/
noncomputable def Try.pinned : Pinned := { name := "ytacceeefcelkhaa", sum := "e218ae689c513426545a05b7ef90ae8b76b0971d1c66a5f3fc0f13889723a95d", checked := Try.checked }
namespace Rows
def none {H : Type} : Left H := { results := [], args := [] }

/-- 'corncriblaw14.DueAll': WHATEVER THE INPUT: true; the input reads as it did. -/
def dueAllSpec : ChangeSpec := { name := "dueAll", fn := fun _ => fun
  | [d1, d2] => { results := [.lit (.bool true)], args := [d1, d2] }
  | _ => none }
def dueAllRow : OpenClaim := { program := "ytacceeefcelkhaa", sum := "e218ae689c513426545a05b7ef90ae8b76b0971d1c66a5f3fc0f13889723a95d", func := "corncrib/corncriblaw14.DueAll", spec := "dueAll", unfollowed := true, recurses := true, apart := false }
def DueAllSaid : Prop := dueAllRow.holds Try.pinned (OpenSpec.ofChange dueAllSpec)

/-- ITS FALSE NEIGHBOUR: 'it returns false'. Refute it at one input. -/
def dueAllWrong : ChangeSpec := { name := "dueAll", fn := fun _ => fun
  | [d1, d2] => { results := [.lit (.bool false)], args := [d1, d2] }
  | _ => none }
def DueAllWrongFalsely : Prop := dueAllRow.holds Try.pinned (OpenSpec.ofChange dueAllWrong)

/-- 'corncriblaw14.DueDrops': WHATEVER THE INPUT: true; the input reads as it did. -/
def dueDropsSpec : ChangeSpec := { name := "dueDrops", fn := fun _ => fun
  | [d1, d2] => { results := [.lit (.bool true)], args := [d1, d2] }
  | _ => none }
def dueDropsRow : OpenClaim := { program := "ytacceeefcelkhaa", sum := "e218ae689c513426545a05b7ef90ae8b76b0971d1c66a5f3fc0f13889723a95d", func := "corncrib/corncriblaw14.DueDrops", spec := "dueDrops", unfollowed := true, recurses := true, apart := false }
def DueDropsSaid : Prop := dueDropsRow.holds Try.pinned (OpenSpec.ofChange dueDropsSpec)

/-- ITS FALSE NEIGHBOUR: 'it returns false'. Refute it at one input. -/
def dueDropsWrong : ChangeSpec := { name := "dueDrops", fn := fun _ => fun
  | [d1, d2] => { results := [.lit (.bool false)], args := [d1, d2] }
  | _ => none }
def DueDropsWrongFalsely : Prop := dueDropsRow.holds Try.pinned (OpenSpec.ofChange dueDropsWrong)

/-- 'corncriblaw14.DueFull': WHATEVER THE INPUT: true; the input reads as it did. -/
def dueFullSpec : ChangeSpec := { name := "dueFull", fn := fun _ => fun
  | [d1, d2] => { results := [.lit (.bool true)], args := [d1, d2] }
  | _ => none }
def dueFullRow : OpenClaim := { program := "ytacceeefcelkhaa", sum := "e218ae689c513426545a05b7ef90ae8b76b0971d1c66a5f3fc0f13889723a95d", func := "corncrib/corncriblaw14.DueFull", spec := "dueFull", unfollowed := true, recurses := true, apart := false }
def DueFullSaid : Prop := dueFullRow.holds Try.pinned (OpenSpec.ofChange dueFullSpec)

/-- ITS FALSE NEIGHBOUR: 'it returns false'. Refute it at one input. -/
def dueFullWrong : ChangeSpec := { name := "dueFull", fn := fun _ => fun
  | [d1, d2] => { results := [.lit (.bool false)], args := [d1, d2] }
  | _ => none }
def DueFullWrongFalsely : Prop := dueFullRow.holds Try.pinned (OpenSpec.ofChange dueFullWrong)

/-- 'corncriblaw14.DuePlays': WHATEVER THE INPUT: true; the input reads as it did. -/
def duePlaysSpec : ChangeSpec := { name := "duePlays", fn := fun _ => fun
  | [d] => { results := [.lit (.bool true)], args := [d] }
  | _ => none }
def duePlaysRow : OpenClaim := { program := "ytacceeefcelkhaa", sum := "e218ae689c513426545a05b7ef90ae8b76b0971d1c66a5f3fc0f13889723a95d", func := "corncrib/corncriblaw14.DuePlays", spec := "duePlays", unfollowed := true, recurses := true, apart := false }
def DuePlaysSaid : Prop := duePlaysRow.holds Try.pinned (OpenSpec.ofChange duePlaysSpec)

/-- ITS FALSE NEIGHBOUR: 'it returns false'. Refute it at one input. -/
def duePlaysWrong : ChangeSpec := { name := "duePlays", fn := fun _ => fun
  | [d] => { results := [.lit (.bool false)], args := [d] }
  | _ => none }
def DuePlaysWrongFalsely : Prop := duePlaysRow.holds Try.pinned (OpenSpec.ofChange duePlaysWrong)

/- THE SECOND FORM. 'bulk': how many values and letters a reading holds, each counted each time it is reached (what is shared counts as often as it is met; a slice's spare places count too). A statement '..UptoSaid' is the law's where the arguments, and the package variables that the reading takes, are together of bulk at most 1048576: NARROWER than '..Said'. Prove '..Said' where nothing that the law and all that it calls make is longer than what came in: it says more and counts as full. Else prove '..UptoSaid'. A law counts once. -/
mutual
def uptoBulk {H : Type} : DataW H → Nat
  | .lit (.string bytes) => bytes.length + 1
  | .lit _ => 1
  | .nil => 1
  | .ptr d => uptoBulk d + 1
  | .slice elems spare => uptoBulkAll elems + uptoBulkAll spare + 1
  | .agg parts => uptoBulkAll parts + 1
  | .iface _ d => uptoBulk d + 1
  | .map entries => uptoBulkEntries entries + 1
  | .held _ => 1
def uptoBulkAll {H : Type} : List (DataW H) → Nat
  | [] => 0
  | d :: r => uptoBulk d + uptoBulkAll r
def uptoBulkEntries {H : Type} : List (Lit × DataW H) → Nat
  | [] => 0
  | x :: r => uptoBulkEntry x + uptoBulkEntries r
def uptoBulkEntry {H : Type} : Lit × DataW H → Nat
  | (.string bytes, d) => bytes.length + uptoBulk d + 1
  | (_, d) => uptoBulk d + 1
 end
def uptoSmall : (H : Type) → List (DataW H) → Bool := fun _ ds => decide (uptoBulkAll ds ≤ 1048576)
def OpenSpec.upto (s : _root_.Go.ChangeSpec) : _root_.Go.OpenSpec := { _root_.Go.OpenSpec.ofChange s with cond := some uptoSmall }

/-- 'corncriblaw14.DueAll', WHERE WHAT IT READS IS OF BULK AT MOST 1048576: true; the input reads as it did. -/
def dueAllUptoRow : OpenClaim := { program := "ytacceeefcelkhaa", sum := "e218ae689c513426545a05b7ef90ae8b76b0971d1c66a5f3fc0f13889723a95d", func := "corncrib/corncriblaw14.DueAll", spec := "dueAll", unfollowed := true, recurses := true, apart := false, narrowed := true }
def DueAllUptoSaid : Prop := dueAllUptoRow.holds Try.pinned (OpenSpec.upto dueAllSpec)

/-- 'corncriblaw14.DueDrops', WHERE WHAT IT READS IS OF BULK AT MOST 1048576: true; the input reads as it did. -/
def dueDropsUptoRow : OpenClaim := { program := "ytacceeefcelkhaa", sum := "e218ae689c513426545a05b7ef90ae8b76b0971d1c66a5f3fc0f13889723a95d", func := "corncrib/corncriblaw14.DueDrops", spec := "dueDrops", unfollowed := true, recurses := true, apart := false, narrowed := true }
def DueDropsUptoSaid : Prop := dueDropsUptoRow.holds Try.pinned (OpenSpec.upto dueDropsSpec)

/-- 'corncriblaw14.DueFull', WHERE WHAT IT READS IS OF BULK AT MOST 1048576: true; the input reads as it did. -/
def dueFullUptoRow : OpenClaim := { program := "ytacceeefcelkhaa", sum := "e218ae689c513426545a05b7ef90ae8b76b0971d1c66a5f3fc0f13889723a95d", func := "corncrib/corncriblaw14.DueFull", spec := "dueFull", unfollowed := true, recurses := true, apart := false, narrowed := true }
def DueFullUptoSaid : Prop := dueFullUptoRow.holds Try.pinned (OpenSpec.upto dueFullSpec)

/-- 'corncriblaw14.DuePlays', WHERE WHAT IT READS IS OF BULK AT MOST 1048576: true; the input reads as it did. -/
def duePlaysUptoRow : OpenClaim := { program := "ytacceeefcelkhaa", sum := "e218ae689c513426545a05b7ef90ae8b76b0971d1c66a5f3fc0f13889723a95d", func := "corncrib/corncriblaw14.DuePlays", spec := "duePlays", unfollowed := true, recurses := true, apart := false, narrowed := true }
def DuePlaysUptoSaid : Prop := duePlaysUptoRow.holds Try.pinned (OpenSpec.upto duePlaysSpec)

end Rows
end Go.Proofs.Ytacceeefcelkhaa
