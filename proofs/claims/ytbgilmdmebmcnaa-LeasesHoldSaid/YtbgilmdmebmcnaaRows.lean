/-
  No cell of these rows narrows 'for every input' (looked for: loops, veiled, ifaces, maps, wideKeys, modest, calm, conditions, laid).
  DERIVED. THE GIVEN ROWS OF THIS SEAT. 3 by the template 'for every input the law returns true; each argument reads behind the call as it read before'; 0 by the template 'total and deterministic' (their statements: YtbgilmdmebmcnaaTotals.lean).
  GIVEN WITH THE SEED: the statements are not yours to turn. If you find one false, say at which input.
  Laid BY PROGRAM, IN A SANDBOX (cutbox-rows.mjs): the forced cells as the released guide's own fill.sh prints them over the translation 561cc113d65fed17… (all of the seat's roots in one cut). By AI agents, Wed Nov 11 2026. No macro, syntax, notation, axiom, sorry.
-/
import Derived.Test.YtbgilmdmebmcnaaChecked
import GoSem.Claim
import GoSem.ClaimJoined
import GoSem.ClaimMapViews
import Derived.JoinedTies
import Derived.KernelRfl
namespace Go.Proofs.Ytbgilmdmebmcnaa
/- THE CELL 'sum', in the pinned program and in every row, IS THE sha256 OF THE DUMP (.gsa) THAT YtbgilmdmebmcnaaProg.lean LOADS. Nothing in Lean hashes anything: it is a label: what it is worth is what the hold of that sum in a sandbox is worth. -/
noncomputable def Try.pinned : Pinned := { name := "ytbgilmdmebmcnaa", sum := "561cc113d65fed176f87462013ef2fa1bba1ebe69b3470d977f97d409aff70f5", checked := Try.checked }
namespace Rows
def none {H : Type} : Left H := { results := [], args := [] }

/-- 'corncriblaw17.LeasesHold': WHATEVER THE INPUT: true; the input reads as it did. -/
def leasesHoldSpec : ChangeSpec := { name := "leasesHold", fn := fun _ => fun
  | [d1, d2, d3] => { results := [.lit (.bool true)], args := [d1, d2, d3] }
  | _ => none }
def leasesHoldRow : OpenClaim := { program := "ytbgilmdmebmcnaa", sum := "561cc113d65fed176f87462013ef2fa1bba1ebe69b3470d977f97d409aff70f5", func := "corncrib/corncriblaw17.LeasesHold", spec := "leasesHold", unfollowed := true, recurses := true, apart := false }
def LeasesHoldSaid : Prop := leasesHoldRow.holds Try.pinned (OpenSpec.ofChange leasesHoldSpec)

/-- ITS FALSE NEIGHBOUR: 'it returns false'. Refute it at one input. -/
def leasesHoldWrong : ChangeSpec := { name := "leasesHold", fn := fun _ => fun
  | [d1, d2, d3] => { results := [.lit (.bool false)], args := [d1, d2, d3] }
  | _ => none }
def LeasesHoldWrongFalsely : Prop := leasesHoldRow.holds Try.pinned (OpenSpec.ofChange leasesHoldWrong)

/-- 'corncriblaw17.LeasesPlay': WHATEVER THE INPUT: true; the input reads as it did. -/
def leasesPlaySpec : ChangeSpec := { name := "leasesPlay", fn := fun _ => fun
  | [d1, d2] => { results := [.lit (.bool true)], args := [d1, d2] }
  | _ => none }
def leasesPlayRow : OpenClaim := { program := "ytbgilmdmebmcnaa", sum := "561cc113d65fed176f87462013ef2fa1bba1ebe69b3470d977f97d409aff70f5", func := "corncrib/corncriblaw17.LeasesPlay", spec := "leasesPlay", unfollowed := true, recurses := true, apart := false }
def LeasesPlaySaid : Prop := leasesPlayRow.holds Try.pinned (OpenSpec.ofChange leasesPlaySpec)

/-- ITS FALSE NEIGHBOUR: 'it returns false'. Refute it at one input. -/
def leasesPlayWrong : ChangeSpec := { name := "leasesPlay", fn := fun _ => fun
  | [d1, d2] => { results := [.lit (.bool false)], args := [d1, d2] }
  | _ => none }
def LeasesPlayWrongFalsely : Prop := leasesPlayRow.holds Try.pinned (OpenSpec.ofChange leasesPlayWrong)

/-- 'corncriblaw17.LeasesOver': WHATEVER THE INPUT: true; the input reads as it did. -/
def leasesOverSpec : ChangeSpec := { name := "leasesOver", fn := fun _ => fun
  | [d1, d2, d3] => { results := [.lit (.bool true)], args := [d1, d2, d3] }
  | _ => none }
def leasesOverRow : OpenClaim := { program := "ytbgilmdmebmcnaa", sum := "561cc113d65fed176f87462013ef2fa1bba1ebe69b3470d977f97d409aff70f5", func := "corncrib/corncriblaw17.LeasesOver", spec := "leasesOver", unfollowed := true, recurses := true, apart := false }
def LeasesOverSaid : Prop := leasesOverRow.holds Try.pinned (OpenSpec.ofChange leasesOverSpec)

/-- ITS FALSE NEIGHBOUR: 'it returns false'. Refute it at one input. -/
def leasesOverWrong : ChangeSpec := { name := "leasesOver", fn := fun _ => fun
  | [d1, d2, d3] => { results := [.lit (.bool false)], args := [d1, d2, d3] }
  | _ => none }
def LeasesOverWrongFalsely : Prop := leasesOverRow.holds Try.pinned (OpenSpec.ofChange leasesOverWrong)

/- THE SECOND FORM. 'bulk': how many values and letters a reading holds, each counted each time it is reached (what is shared counts as often as it is met; a slice's spare places count too). A statement '..UptoSaid' is the law's where the arguments, and the package variables that the reading takes, are together of bulk at most 1048576: NARROWER than '..Said'. Prove '..Said' where nothing that the law and all that it calls make is longer than what came in: it says more and counts as full. Else prove '..UptoSaid'. A law counts once. -/
mutual
def uptoBulk {H : Type} : DataW H → Nat
  | .lit (.string bytes) => bytes.length + 1
  | .lit _ => 1
  | .nil => 1
  | .ptr d => uptoBulk d + 1
  | .slice elems spare => uptoBulkAll elems + uptoBulkAll spare + 1
  | .agg parts => uptoBulkAll parts + 1
  | .iface _ d => uptoBulk d + 1
  | .map entries => uptoBulkEntries entries + 1
  | .held _ => 1
def uptoBulkAll {H : Type} : List (DataW H) → Nat
  | [] => 0
  | d :: r => uptoBulk d + uptoBulkAll r
def uptoBulkEntries {H : Type} : List (Lit × DataW H) → Nat
  | [] => 0
  | x :: r => uptoBulkEntry x + uptoBulkEntries r
def uptoBulkEntry {H : Type} : Lit × DataW H → Nat
  | (.string bytes, d) => bytes.length + uptoBulk d + 1
  | (_, d) => uptoBulk d + 1
 end
def uptoSmall : (H : Type) → List (DataW H) → Bool := fun _ ds => decide (uptoBulkAll ds ≤ 1048576)
def OpenSpec.upto (s : _root_.Go.ChangeSpec) : _root_.Go.OpenSpec := { _root_.Go.OpenSpec.ofChange s with cond := some uptoSmall }

/-- 'corncriblaw17.LeasesHold', WHERE WHAT IT READS IS OF BULK AT MOST 1048576: true; the input reads as it did. -/
def leasesHoldUptoRow : OpenClaim := { program := "ytbgilmdmebmcnaa", sum := "561cc113d65fed176f87462013ef2fa1bba1ebe69b3470d977f97d409aff70f5", func := "corncrib/corncriblaw17.LeasesHold", spec := "leasesHold", unfollowed := true, recurses := true, apart := false, narrowed := true }
def LeasesHoldUptoSaid : Prop := leasesHoldUptoRow.holds Try.pinned (OpenSpec.upto leasesHoldSpec)

/-- 'corncriblaw17.LeasesPlay', WHERE WHAT IT READS IS OF BULK AT MOST 1048576: true; the input reads as it did. -/
def leasesPlayUptoRow : OpenClaim := { program := "ytbgilmdmebmcnaa", sum := "561cc113d65fed176f87462013ef2fa1bba1ebe69b3470d977f97d409aff70f5", func := "corncrib/corncriblaw17.LeasesPlay", spec := "leasesPlay", unfollowed := true, recurses := true, apart := false, narrowed := true }
def LeasesPlayUptoSaid : Prop := leasesPlayUptoRow.holds Try.pinned (OpenSpec.upto leasesPlaySpec)

/-- 'corncriblaw17.LeasesOver', WHERE WHAT IT READS IS OF BULK AT MOST 1048576: true; the input reads as it did. -/
def leasesOverUptoRow : OpenClaim := { program := "ytbgilmdmebmcnaa", sum := "561cc113d65fed176f87462013ef2fa1bba1ebe69b3470d977f97d409aff70f5", func := "corncrib/corncriblaw17.LeasesOver", spec := "leasesOver", unfollowed := true, recurses := true, apart := false, narrowed := true }
def LeasesOverUptoSaid : Prop := leasesOverUptoRow.holds Try.pinned (OpenSpec.upto leasesOverSpec)

end Rows
end Go.Proofs.Ytbgilmdmebmcnaa
