/-
  No cell of these rows narrows 'for every input' (looked for: loops, veiled, ifaces, maps, wideKeys, modest, calm, conditions, laid).
  DERIVED. THE GIVEN ROWS OF THIS SEAT. 5 by the template 'for every input the law returns true; each argument reads behind the call as it read before'; 0 by the template 'total and deterministic' (their statements: YtnbomedhehoflaaTotals.lean).
  GIVEN WITH THE SEED: the statements are not yours to turn. If you find one false, say at which input.
  Laid BY PROGRAM, IN A SANDBOX (cutbox-rows.mjs): the forced cells as the released guide's own fill.sh prints them over the translation b113c1e0f5fc5f9a… (all of the seat's roots in one cut). By AI agents, Wed Nov 11 2026. No macro, syntax, notation, axiom, sorry.
-/
import Derived.Test.YtnbomedhehoflaaChecked
import GoSem.Claim
import GoSem.ClaimJoined
import GoSem.ClaimMapViews
import Derived.JoinedTies
import Derived.KernelRfl
namespace Go.Proofs.Ytnbomedhehoflaa
/- THE CELL 'sum', in the pinned program and in every row, IS THE sha256 OF THE DUMP (.gsa) THAT YtnbomedhehoflaaProg.lean LOADS. Nothing in Lean hashes anything: it is a label: what it is worth is what the hold of that sum in a sandbox is worth. -/
noncomputable def Try.pinned : Pinned := { name := "ytnbomedhehoflaa", sum := "b113c1e0f5fc5f9a7b7ccd678f995ee96e9621ee731f74a5bca95148b6e9068d", checked := Try.checked }
namespace Rows
def none {H : Type} : Left H := { results := [], args := [] }

/-- 'corncriblaw15.NetFirst': WHATEVER THE INPUT: true; the input reads as it did. -/
def netFirstSpec : ChangeSpec := { name := "netFirst", fn := fun _ => fun
  | [d1, d2] => { results := [.lit (.bool true)], args := [d1, d2] }
  | _ => none }
def netFirstRow : OpenClaim := { program := "ytnbomedhehoflaa", sum := "b113c1e0f5fc5f9a7b7ccd678f995ee96e9621ee731f74a5bca95148b6e9068d", func := "corncrib/corncriblaw15.NetFirst", spec := "netFirst", unfollowed := true, recurses := true, apart := false }
def NetFirstSaid : Prop := netFirstRow.holds Try.pinned (OpenSpec.ofChange netFirstSpec)

/-- ITS FALSE NEIGHBOUR: 'it returns false'. Refute it at one input. -/
def netFirstWrong : ChangeSpec := { name := "netFirst", fn := fun _ => fun
  | [d1, d2] => { results := [.lit (.bool false)], args := [d1, d2] }
  | _ => none }
def NetFirstWrongFalsely : Prop := netFirstRow.holds Try.pinned (OpenSpec.ofChange netFirstWrong)

/-- 'corncriblaw15.NetTruth': WHATEVER THE INPUT: true; the input reads as it did. -/
def netTruthSpec : ChangeSpec := { name := "netTruth", fn := fun _ => fun
  | [d] => { results := [.lit (.bool true)], args := [d] }
  | _ => none }
def netTruthRow : OpenClaim := { program := "ytnbomedhehoflaa", sum := "b113c1e0f5fc5f9a7b7ccd678f995ee96e9621ee731f74a5bca95148b6e9068d", func := "corncrib/corncriblaw15.NetTruth", spec := "netTruth", unfollowed := true, recurses := true, apart := false }
def NetTruthSaid : Prop := netTruthRow.holds Try.pinned (OpenSpec.ofChange netTruthSpec)

/-- ITS FALSE NEIGHBOUR: 'it returns false'. Refute it at one input. -/
def netTruthWrong : ChangeSpec := { name := "netTruth", fn := fun _ => fun
  | [d] => { results := [.lit (.bool false)], args := [d] }
  | _ => none }
def NetTruthWrongFalsely : Prop := netTruthRow.holds Try.pinned (OpenSpec.ofChange netTruthWrong)

/-- 'corncriblaw15.NetFor': WHATEVER THE INPUT: true; the input reads as it did. -/
def netForSpec : ChangeSpec := { name := "netFor", fn := fun _ => fun
  | [d] => { results := [.lit (.bool true)], args := [d] }
  | _ => none }
def netForRow : OpenClaim := { program := "ytnbomedhehoflaa", sum := "b113c1e0f5fc5f9a7b7ccd678f995ee96e9621ee731f74a5bca95148b6e9068d", func := "corncrib/corncriblaw15.NetFor", spec := "netFor", unfollowed := true, recurses := true, apart := false }
def NetForSaid : Prop := netForRow.holds Try.pinned (OpenSpec.ofChange netForSpec)

/-- ITS FALSE NEIGHBOUR: 'it returns false'. Refute it at one input. -/
def netForWrong : ChangeSpec := { name := "netFor", fn := fun _ => fun
  | [d] => { results := [.lit (.bool false)], args := [d] }
  | _ => none }
def NetForWrongFalsely : Prop := netForRow.holds Try.pinned (OpenSpec.ofChange netForWrong)

/-- 'corncriblaw15.NetBytes': WHATEVER THE INPUT: true; the input reads as it did. -/
def netBytesSpec : ChangeSpec := { name := "netBytes", fn := fun _ => fun
  | [d1, d2] => { results := [.lit (.bool true)], args := [d1, d2] }
  | _ => none }
def netBytesRow : OpenClaim := { program := "ytnbomedhehoflaa", sum := "b113c1e0f5fc5f9a7b7ccd678f995ee96e9621ee731f74a5bca95148b6e9068d", func := "corncrib/corncriblaw15.NetBytes", spec := "netBytes", unfollowed := true, recurses := true, apart := false }
def NetBytesSaid : Prop := netBytesRow.holds Try.pinned (OpenSpec.ofChange netBytesSpec)

/-- ITS FALSE NEIGHBOUR: 'it returns false'. Refute it at one input. -/
def netBytesWrong : ChangeSpec := { name := "netBytes", fn := fun _ => fun
  | [d1, d2] => { results := [.lit (.bool false)], args := [d1, d2] }
  | _ => none }
def NetBytesWrongFalsely : Prop := netBytesRow.holds Try.pinned (OpenSpec.ofChange netBytesWrong)

/-- 'corncriblaw15.NetPlays': WHATEVER THE INPUT: true; the input reads as it did. -/
def netPlaysSpec : ChangeSpec := { name := "netPlays", fn := fun _ => fun
  | [d1, d2] => { results := [.lit (.bool true)], args := [d1, d2] }
  | _ => none }
def netPlaysRow : OpenClaim := { program := "ytnbomedhehoflaa", sum := "b113c1e0f5fc5f9a7b7ccd678f995ee96e9621ee731f74a5bca95148b6e9068d", func := "corncrib/corncriblaw15.NetPlays", spec := "netPlays", unfollowed := true, recurses := true, apart := false }
def NetPlaysSaid : Prop := netPlaysRow.holds Try.pinned (OpenSpec.ofChange netPlaysSpec)

/-- ITS FALSE NEIGHBOUR: 'it returns false'. Refute it at one input. -/
def netPlaysWrong : ChangeSpec := { name := "netPlays", fn := fun _ => fun
  | [d1, d2] => { results := [.lit (.bool false)], args := [d1, d2] }
  | _ => none }
def NetPlaysWrongFalsely : Prop := netPlaysRow.holds Try.pinned (OpenSpec.ofChange netPlaysWrong)

/- THE SECOND FORM. 'bulk': how many values and letters a reading holds, each counted each time it is reached (what is shared counts as often as it is met; a slice's spare places count too). A statement '..UptoSaid' is the law's where the arguments, and the package variables that the reading takes, are together of bulk at most 1048576: NARROWER than '..Said'. Prove '..Said' where nothing that the law and all that it calls make is longer than what came in: it says more and counts as full. Else prove '..UptoSaid'. A law counts once. -/
mutual
def uptoBulk {H : Type} : DataW H → Nat
  | .lit (.string bytes) => bytes.length + 1
  | .lit _ => 1
  | .nil => 1
  | .ptr d => uptoBulk d + 1
  | .slice elems spare => uptoBulkAll elems + uptoBulkAll spare + 1
  | .agg parts => uptoBulkAll parts + 1
  | .iface _ d => uptoBulk d + 1
  | .map entries => uptoBulkEntries entries + 1
  | .held _ => 1
def uptoBulkAll {H : Type} : List (DataW H) → Nat
  | [] => 0
  | d :: r => uptoBulk d + uptoBulkAll r
def uptoBulkEntries {H : Type} : List (Lit × DataW H) → Nat
  | [] => 0
  | x :: r => uptoBulkEntry x + uptoBulkEntries r
def uptoBulkEntry {H : Type} : Lit × DataW H → Nat
  | (.string bytes, d) => bytes.length + uptoBulk d + 1
  | (_, d) => uptoBulk d + 1
 end
def uptoSmall : (H : Type) → List (DataW H) → Bool := fun _ ds => decide (uptoBulkAll ds ≤ 1048576)
def OpenSpec.upto (s : _root_.Go.ChangeSpec) : _root_.Go.OpenSpec := { _root_.Go.OpenSpec.ofChange s with cond := some uptoSmall }

/-- 'corncriblaw15.NetFirst', WHERE WHAT IT READS IS OF BULK AT MOST 1048576: true; the input reads as it did. -/
def netFirstUptoRow : OpenClaim := { program := "ytnbomedhehoflaa", sum := "b113c1e0f5fc5f9a7b7ccd678f995ee96e9621ee731f74a5bca95148b6e9068d", func := "corncrib/corncriblaw15.NetFirst", spec := "netFirst", unfollowed := true, recurses := true, apart := false, narrowed := true }
def NetFirstUptoSaid : Prop := netFirstUptoRow.holds Try.pinned (OpenSpec.upto netFirstSpec)

/-- 'corncriblaw15.NetTruth', WHERE WHAT IT READS IS OF BULK AT MOST 1048576: true; the input reads as it did. -/
def netTruthUptoRow : OpenClaim := { program := "ytnbomedhehoflaa", sum := "b113c1e0f5fc5f9a7b7ccd678f995ee96e9621ee731f74a5bca95148b6e9068d", func := "corncrib/corncriblaw15.NetTruth", spec := "netTruth", unfollowed := true, recurses := true, apart := false, narrowed := true }
def NetTruthUptoSaid : Prop := netTruthUptoRow.holds Try.pinned (OpenSpec.upto netTruthSpec)

/-- 'corncriblaw15.NetFor', WHERE WHAT IT READS IS OF BULK AT MOST 1048576: true; the input reads as it did. -/
def netForUptoRow : OpenClaim := { program := "ytnbomedhehoflaa", sum := "b113c1e0f5fc5f9a7b7ccd678f995ee96e9621ee731f74a5bca95148b6e9068d", func := "corncrib/corncriblaw15.NetFor", spec := "netFor", unfollowed := true, recurses := true, apart := false, narrowed := true }
def NetForUptoSaid : Prop := netForUptoRow.holds Try.pinned (OpenSpec.upto netForSpec)

/-- 'corncriblaw15.NetBytes', WHERE WHAT IT READS IS OF BULK AT MOST 1048576: true; the input reads as it did. -/
def netBytesUptoRow : OpenClaim := { program := "ytnbomedhehoflaa", sum := "b113c1e0f5fc5f9a7b7ccd678f995ee96e9621ee731f74a5bca95148b6e9068d", func := "corncrib/corncriblaw15.NetBytes", spec := "netBytes", unfollowed := true, recurses := true, apart := false, narrowed := true }
def NetBytesUptoSaid : Prop := netBytesUptoRow.holds Try.pinned (OpenSpec.upto netBytesSpec)

/-- 'corncriblaw15.NetPlays', WHERE WHAT IT READS IS OF BULK AT MOST 1048576: true; the input reads as it did. -/
def netPlaysUptoRow : OpenClaim := { program := "ytnbomedhehoflaa", sum := "b113c1e0f5fc5f9a7b7ccd678f995ee96e9621ee731f74a5bca95148b6e9068d", func := "corncrib/corncriblaw15.NetPlays", spec := "netPlays", unfollowed := true, recurses := true, apart := false, narrowed := true }
def NetPlaysUptoSaid : Prop := netPlaysUptoRow.holds Try.pinned (OpenSpec.upto netPlaysSpec)

end Rows
end Go.Proofs.Ytnbomedhehoflaa
