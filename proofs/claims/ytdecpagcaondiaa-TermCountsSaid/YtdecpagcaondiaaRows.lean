/-
  No cell of these rows narrows 'for every input' (looked for: loops, veiled, ifaces, maps, wideKeys, modest, calm, conditions, laid).
  DERIVED. THE GIVEN ROWS OF THIS SEAT. 5 by the template 'for every input the law returns true; each argument reads behind the call as it read before'; 0 by the template 'total and deterministic' (their statements: YtdecpagcaondiaaTotals.lean).
  GIVEN WITH THE SEED: the statements are not yours to turn. If you find one false, say at which input.
  Laid BY PROGRAM, IN A SANDBOX (cutbox-rows.mjs): the forced cells as the released guide's own fill.sh prints them over the translation e92bd1a18f7c583e… (all of the seat's roots in one cut). By AI agents, Wed Nov 11 2026. No macro, syntax, notation, axiom, sorry.
-/
import Derived.Test.YtdecpagcaondiaaChecked
import GoSem.Claim
import GoSem.ClaimJoined
import GoSem.ClaimMapViews
import Derived.JoinedTies
import Derived.KernelRfl
namespace Go.Proofs.Ytdecpagcaondiaa
/- THE CELL 'sum', in the pinned program and in every row, IS THE sha256 OF THE DUMP (.gsa) THAT YtdecpagcaondiaaProg.lean LOADS. Nothing in Lean hashes anything: it is a label: what it is worth is what the hold of that sum in a sandbox is worth. -/
noncomputable def Try.pinned : Pinned := { name := "ytdecpagcaondiaa", sum := "e92bd1a18f7c583ed35a3a5038ac82f21662b48fd3cf383f0dee2c2f1561754b", checked := Try.checked }
namespace Rows
def none {H : Type} : Left H := { results := [], args := [] }

/-- 'corncriblaw21.TermStays': WHATEVER THE INPUT: true; the input reads as it did. -/
def termStaysSpec : ChangeSpec := { name := "termStays", fn := fun _ => fun
  | [d1, d2, d3] => { results := [.lit (.bool true)], args := [d1, d2, d3] }
  | _ => none }
def termStaysRow : OpenClaim := { program := "ytdecpagcaondiaa", sum := "e92bd1a18f7c583ed35a3a5038ac82f21662b48fd3cf383f0dee2c2f1561754b", func := "corncrib/corncriblaw21.TermStays", spec := "termStays", apart := false }
def TermStaysSaid : Prop := termStaysRow.holds Try.pinned (OpenSpec.ofChange termStaysSpec)

/-- ITS FALSE NEIGHBOUR: 'it returns false'. Refute it at one input. -/
def termStaysWrong : ChangeSpec := { name := "termStays", fn := fun _ => fun
  | [d1, d2, d3] => { results := [.lit (.bool false)], args := [d1, d2, d3] }
  | _ => none }
def TermStaysWrongFalsely : Prop := termStaysRow.holds Try.pinned (OpenSpec.ofChange termStaysWrong)

/-- 'corncriblaw21.TermVotes': WHATEVER THE INPUT: true; the input reads as it did. -/
def termVotesSpec : ChangeSpec := { name := "termVotes", fn := fun _ => fun
  | [d1, d2, d3] => { results := [.lit (.bool true)], args := [d1, d2, d3] }
  | _ => none }
def termVotesRow : OpenClaim := { program := "ytdecpagcaondiaa", sum := "e92bd1a18f7c583ed35a3a5038ac82f21662b48fd3cf383f0dee2c2f1561754b", func := "corncrib/corncriblaw21.TermVotes", spec := "termVotes", apart := false }
def TermVotesSaid : Prop := termVotesRow.holds Try.pinned (OpenSpec.ofChange termVotesSpec)

/-- ITS FALSE NEIGHBOUR: 'it returns false'. Refute it at one input. -/
def termVotesWrong : ChangeSpec := { name := "termVotes", fn := fun _ => fun
  | [d1, d2, d3] => { results := [.lit (.bool false)], args := [d1, d2, d3] }
  | _ => none }
def TermVotesWrongFalsely : Prop := termVotesRow.holds Try.pinned (OpenSpec.ofChange termVotesWrong)

/-- 'corncriblaw21.TermCounts': WHATEVER THE INPUT: true; the input reads as it did. -/
def termCountsSpec : ChangeSpec := { name := "termCounts", fn := fun _ => fun
  | [d1, d2, d3] => { results := [.lit (.bool true)], args := [d1, d2, d3] }
  | _ => none }
def termCountsRow : OpenClaim := { program := "ytdecpagcaondiaa", sum := "e92bd1a18f7c583ed35a3a5038ac82f21662b48fd3cf383f0dee2c2f1561754b", func := "corncrib/corncriblaw21.TermCounts", spec := "termCounts", apart := false }
def TermCountsSaid : Prop := termCountsRow.holds Try.pinned (OpenSpec.ofChange termCountsSpec)

/-- ITS FALSE NEIGHBOUR: 'it returns false'. Refute it at one input. -/
def termCountsWrong : ChangeSpec := { name := "termCounts", fn := fun _ => fun
  | [d1, d2, d3] => { results := [.lit (.bool false)], args := [d1, d2, d3] }
  | _ => none }
def TermCountsWrongFalsely : Prop := termCountsRow.holds Try.pinned (OpenSpec.ofChange termCountsWrong)

/-- 'corncriblaw21.TermTold': WHATEVER THE INPUT: true; the input reads as it did. -/
def termToldSpec : ChangeSpec := { name := "termTold", fn := fun _ => fun
  | [d1, d2] => { results := [.lit (.bool true)], args := [d1, d2] }
  | _ => none }
def termToldRow : OpenClaim := { program := "ytdecpagcaondiaa", sum := "e92bd1a18f7c583ed35a3a5038ac82f21662b48fd3cf383f0dee2c2f1561754b", func := "corncrib/corncriblaw21.TermTold", spec := "termTold", apart := false }
def TermToldSaid : Prop := termToldRow.holds Try.pinned (OpenSpec.ofChange termToldSpec)

/-- ITS FALSE NEIGHBOUR: 'it returns false'. Refute it at one input. -/
def termToldWrong : ChangeSpec := { name := "termTold", fn := fun _ => fun
  | [d1, d2] => { results := [.lit (.bool false)], args := [d1, d2] }
  | _ => none }
def TermToldWrongFalsely : Prop := termToldRow.holds Try.pinned (OpenSpec.ofChange termToldWrong)

/-- 'corncriblaw21.TermTells': WHATEVER THE INPUT: true; the input reads as it did. -/
def termTellsSpec : ChangeSpec := { name := "termTells", fn := fun _ => fun
  | [d1, d2, d3] => { results := [.lit (.bool true)], args := [d1, d2, d3] }
  | _ => none }
def termTellsRow : OpenClaim := { program := "ytdecpagcaondiaa", sum := "e92bd1a18f7c583ed35a3a5038ac82f21662b48fd3cf383f0dee2c2f1561754b", func := "corncrib/corncriblaw21.TermTells", spec := "termTells", apart := false }
def TermTellsSaid : Prop := termTellsRow.holds Try.pinned (OpenSpec.ofChange termTellsSpec)

/-- ITS FALSE NEIGHBOUR: 'it returns false'. Refute it at one input. -/
def termTellsWrong : ChangeSpec := { name := "termTells", fn := fun _ => fun
  | [d1, d2, d3] => { results := [.lit (.bool false)], args := [d1, d2, d3] }
  | _ => none }
def TermTellsWrongFalsely : Prop := termTellsRow.holds Try.pinned (OpenSpec.ofChange termTellsWrong)

/- THE SECOND FORM. 'bulk': how many values and letters a reading holds, each counted each time it is reached (what is shared counts as often as it is met; a slice's spare places count too). A statement '..UptoSaid' is the law's where the arguments, and the package variables that the reading takes, are together of bulk at most 1048576: NARROWER than '..Said'. Prove '..Said' where nothing that the law and all that it calls make is longer than what came in: it says more and counts as full. Else prove '..UptoSaid'. A law counts once. -/
mutual
def uptoBulk {H : Type} : DataW H → Nat
  | .lit (.string bytes) => bytes.length + 1
  | .lit _ => 1
  | .nil => 1
  | .ptr d => uptoBulk d + 1
  | .slice elems spare => uptoBulkAll elems + uptoBulkAll spare + 1
  | .agg parts => uptoBulkAll parts + 1
  | .iface _ d => uptoBulk d + 1
  | .map entries => uptoBulkEntries entries + 1
  | .held _ => 1
def uptoBulkAll {H : Type} : List (DataW H) → Nat
  | [] => 0
  | d :: r => uptoBulk d + uptoBulkAll r
def uptoBulkEntries {H : Type} : List (Lit × DataW H) → Nat
  | [] => 0
  | x :: r => uptoBulkEntry x + uptoBulkEntries r
def uptoBulkEntry {H : Type} : Lit × DataW H → Nat
  | (.string bytes, d) => bytes.length + uptoBulk d + 1
  | (_, d) => uptoBulk d + 1
 end
def uptoSmall : (H : Type) → List (DataW H) → Bool := fun _ ds => decide (uptoBulkAll ds ≤ 1048576)
def OpenSpec.upto (s : _root_.Go.ChangeSpec) : _root_.Go.OpenSpec := { _root_.Go.OpenSpec.ofChange s with cond := some uptoSmall }

/-- 'corncriblaw21.TermStays', WHERE WHAT IT READS IS OF BULK AT MOST 1048576: true; the input reads as it did. -/
def termStaysUptoRow : OpenClaim := { program := "ytdecpagcaondiaa", sum := "e92bd1a18f7c583ed35a3a5038ac82f21662b48fd3cf383f0dee2c2f1561754b", func := "corncrib/corncriblaw21.TermStays", spec := "termStays", apart := false, narrowed := true }
def TermStaysUptoSaid : Prop := termStaysUptoRow.holds Try.pinned (OpenSpec.upto termStaysSpec)

/-- 'corncriblaw21.TermVotes', WHERE WHAT IT READS IS OF BULK AT MOST 1048576: true; the input reads as it did. -/
def termVotesUptoRow : OpenClaim := { program := "ytdecpagcaondiaa", sum := "e92bd1a18f7c583ed35a3a5038ac82f21662b48fd3cf383f0dee2c2f1561754b", func := "corncrib/corncriblaw21.TermVotes", spec := "termVotes", apart := false, narrowed := true }
def TermVotesUptoSaid : Prop := termVotesUptoRow.holds Try.pinned (OpenSpec.upto termVotesSpec)

/-- 'corncriblaw21.TermCounts', WHERE WHAT IT READS IS OF BULK AT MOST 1048576: true; the input reads as it did. -/
def termCountsUptoRow : OpenClaim := { program := "ytdecpagcaondiaa", sum := "e92bd1a18f7c583ed35a3a5038ac82f21662b48fd3cf383f0dee2c2f1561754b", func := "corncrib/corncriblaw21.TermCounts", spec := "termCounts", apart := false, narrowed := true }
def TermCountsUptoSaid : Prop := termCountsUptoRow.holds Try.pinned (OpenSpec.upto termCountsSpec)

/-- 'corncriblaw21.TermTold', WHERE WHAT IT READS IS OF BULK AT MOST 1048576: true; the input reads as it did. -/
def termToldUptoRow : OpenClaim := { program := "ytdecpagcaondiaa", sum := "e92bd1a18f7c583ed35a3a5038ac82f21662b48fd3cf383f0dee2c2f1561754b", func := "corncrib/corncriblaw21.TermTold", spec := "termTold", apart := false, narrowed := true }
def TermToldUptoSaid : Prop := termToldUptoRow.holds Try.pinned (OpenSpec.upto termToldSpec)

/-- 'corncriblaw21.TermTells', WHERE WHAT IT READS IS OF BULK AT MOST 1048576: true; the input reads as it did. -/
def termTellsUptoRow : OpenClaim := { program := "ytdecpagcaondiaa", sum := "e92bd1a18f7c583ed35a3a5038ac82f21662b48fd3cf383f0dee2c2f1561754b", func := "corncrib/corncriblaw21.TermTells", spec := "termTells", apart := false, narrowed := true }
def TermTellsUptoSaid : Prop := termTellsUptoRow.holds Try.pinned (OpenSpec.upto termTellsSpec)

end Rows
end Go.Proofs.Ytdecpagcaondiaa
