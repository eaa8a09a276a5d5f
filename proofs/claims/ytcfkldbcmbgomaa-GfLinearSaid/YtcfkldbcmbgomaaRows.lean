/-
  No cell of these rows narrows 'for every input' (looked for: loops, veiled, ifaces, maps, wideKeys, modest, calm, conditions, laid).
  DERIVED. THE GIVEN ROWS OF THIS SEAT. 10 by the template 'for every input the law returns true; each argument reads behind the call as it read before'; 0 by the template 'total and deterministic' (their statements: YtcfkldbcmbgomaaTotals.lean).
  GIVEN WITH THE SEED: the statements are not yours to turn. If you find one false, say at which input.
  Laid BY PROGRAM, IN A SANDBOX (cutbox-rows.mjs): the forced cells as the released guide's own fill.sh prints them over the translation 5fbe7a25f0b0c7f7… (all of the seat's roots in one cut). By AI agents, Wed Nov 11 2026. No macro, syntax, notation, axiom, sorry.
-/
import Derived.Test.YtcfkldbcmbgomaaChecked
import GoSem.Claim
import GoSem.ClaimJoined
import GoSem.ClaimMapViews
import Derived.JoinedTies
import Derived.KernelRfl
namespace Go.Proofs.Ytcfkldbcmbgomaa
/- THE CELL 'sum', in the pinned program and in every row, IS THE sha256 OF THE DUMP (.gsa) THAT YtcfkldbcmbgomaaProg.lean LOADS. Nothing in Lean hashes anything: it is a label: what it is worth is what the hold of that sum in a sandbox is worth. -/
noncomputable def Try.pinned : Pinned := { name := "ytcfkldbcmbgomaa", sum := "5fbe7a25f0b0c7f71a967f563a5a6aa46f4428be47472d25df0068b44ab01172", checked := Try.checked }
namespace Rows
def none {H : Type} : Left H := { results := [], args := [] }

/-- 'corncriblaw01.GfProducts': WHATEVER THE INPUT: true; the input reads as it did. -/
def gfProductsSpec : ChangeSpec := { name := "gfProducts", fn := fun _ => fun
  | [d1, d2] => { results := [.lit (.bool true)], args := [d1, d2] }
  | _ => none }
def gfProductsRow : OpenClaim := { program := "ytcfkldbcmbgomaa", sum := "5fbe7a25f0b0c7f71a967f563a5a6aa46f4428be47472d25df0068b44ab01172", func := "corncrib/corncriblaw01.GfProducts", spec := "gfProducts", apart := false }
def GfProductsSaid : Prop := gfProductsRow.holds Try.pinned (OpenSpec.ofChange gfProductsSpec)

/-- ITS FALSE NEIGHBOUR: 'it returns false'. Refute it at one input. -/
def gfProductsWrong : ChangeSpec := { name := "gfProducts", fn := fun _ => fun
  | [d1, d2] => { results := [.lit (.bool false)], args := [d1, d2] }
  | _ => none }
def GfProductsWrongFalsely : Prop := gfProductsRow.holds Try.pinned (OpenSpec.ofChange gfProductsWrong)

/-- 'corncriblaw01.GfInverses': WHATEVER THE INPUT: true; the input reads as it did. -/
def gfInversesSpec : ChangeSpec := { name := "gfInverses", fn := fun _ => fun
  | [d1, d2] => { results := [.lit (.bool true)], args := [d1, d2] }
  | _ => none }
def gfInversesRow : OpenClaim := { program := "ytcfkldbcmbgomaa", sum := "5fbe7a25f0b0c7f71a967f563a5a6aa46f4428be47472d25df0068b44ab01172", func := "corncrib/corncriblaw01.GfInverses", spec := "gfInverses", apart := false }
def GfInversesSaid : Prop := gfInversesRow.holds Try.pinned (OpenSpec.ofChange gfInversesSpec)

/-- ITS FALSE NEIGHBOUR: 'it returns false'. Refute it at one input. -/
def gfInversesWrong : ChangeSpec := { name := "gfInverses", fn := fun _ => fun
  | [d1, d2] => { results := [.lit (.bool false)], args := [d1, d2] }
  | _ => none }
def GfInversesWrongFalsely : Prop := gfInversesRow.holds Try.pinned (OpenSpec.ofChange gfInversesWrong)

/-- 'corncriblaw01.GfPowers': WHATEVER THE INPUT: true; the input reads as it did. -/
def gfPowersSpec : ChangeSpec := { name := "gfPowers", fn := fun _ => fun
  | [d1, d2] => { results := [.lit (.bool true)], args := [d1, d2] }
  | _ => none }
def gfPowersRow : OpenClaim := { program := "ytcfkldbcmbgomaa", sum := "5fbe7a25f0b0c7f71a967f563a5a6aa46f4428be47472d25df0068b44ab01172", func := "corncrib/corncriblaw01.GfPowers", spec := "gfPowers", apart := false }
def GfPowersSaid : Prop := gfPowersRow.holds Try.pinned (OpenSpec.ofChange gfPowersSpec)

/-- ITS FALSE NEIGHBOUR: 'it returns false'. Refute it at one input. -/
def gfPowersWrong : ChangeSpec := { name := "gfPowers", fn := fun _ => fun
  | [d1, d2] => { results := [.lit (.bool false)], args := [d1, d2] }
  | _ => none }
def GfPowersWrongFalsely : Prop := gfPowersRow.holds Try.pinned (OpenSpec.ofChange gfPowersWrong)

/-- 'corncriblaw01.GfTexts': WHATEVER THE INPUT: true; the input reads as it did. -/
def gfTextsSpec : ChangeSpec := { name := "gfTexts", fn := fun _ => fun
  | [d1, d2, d3] => { results := [.lit (.bool true)], args := [d1, d2, d3] }
  | _ => none }
def gfTextsRow : OpenClaim := { program := "ytcfkldbcmbgomaa", sum := "5fbe7a25f0b0c7f71a967f563a5a6aa46f4428be47472d25df0068b44ab01172", func := "corncrib/corncriblaw01.GfTexts", spec := "gfTexts", apart := false }
def GfTextsSaid : Prop := gfTextsRow.holds Try.pinned (OpenSpec.ofChange gfTextsSpec)

/-- ITS FALSE NEIGHBOUR: 'it returns false'. Refute it at one input. -/
def gfTextsWrong : ChangeSpec := { name := "gfTexts", fn := fun _ => fun
  | [d1, d2, d3] => { results := [.lit (.bool false)], args := [d1, d2, d3] }
  | _ => none }
def GfTextsWrongFalsely : Prop := gfTextsRow.holds Try.pinned (OpenSpec.ofChange gfTextsWrong)

/-- 'corncriblaw01.GfBack': WHATEVER THE INPUT: true; the input reads as it did. -/
def gfBackSpec : ChangeSpec := { name := "gfBack", fn := fun _ => fun
  | [d1, d2] => { results := [.lit (.bool true)], args := [d1, d2] }
  | _ => none }
def gfBackRow : OpenClaim := { program := "ytcfkldbcmbgomaa", sum := "5fbe7a25f0b0c7f71a967f563a5a6aa46f4428be47472d25df0068b44ab01172", func := "corncrib/corncriblaw01.GfBack", spec := "gfBack", apart := false }
def GfBackSaid : Prop := gfBackRow.holds Try.pinned (OpenSpec.ofChange gfBackSpec)

/-- ITS FALSE NEIGHBOUR: 'it returns false'. Refute it at one input. -/
def gfBackWrong : ChangeSpec := { name := "gfBack", fn := fun _ => fun
  | [d1, d2] => { results := [.lit (.bool false)], args := [d1, d2] }
  | _ => none }
def GfBackWrongFalsely : Prop := gfBackRow.holds Try.pinned (OpenSpec.ofChange gfBackWrong)

/-- 'corncriblaw01.GfSquares': WHATEVER THE INPUT: true; the input reads as it did. -/
def gfSquaresSpec : ChangeSpec := { name := "gfSquares", fn := fun _ => fun
  | [d1, d2, d3] => { results := [.lit (.bool true)], args := [d1, d2, d3] }
  | _ => none }
def gfSquaresRow : OpenClaim := { program := "ytcfkldbcmbgomaa", sum := "5fbe7a25f0b0c7f71a967f563a5a6aa46f4428be47472d25df0068b44ab01172", func := "corncrib/corncriblaw01.GfSquares", spec := "gfSquares", apart := false }
def GfSquaresSaid : Prop := gfSquaresRow.holds Try.pinned (OpenSpec.ofChange gfSquaresSpec)

/-- ITS FALSE NEIGHBOUR: 'it returns false'. Refute it at one input. -/
def gfSquaresWrong : ChangeSpec := { name := "gfSquares", fn := fun _ => fun
  | [d1, d2, d3] => { results := [.lit (.bool false)], args := [d1, d2, d3] }
  | _ => none }
def GfSquaresWrongFalsely : Prop := gfSquaresRow.holds Try.pinned (OpenSpec.ofChange gfSquaresWrong)

/-- 'corncriblaw01.GfRing': WHATEVER THE INPUT: true; the input reads as it did. -/
def gfRingSpec : ChangeSpec := { name := "gfRing", fn := fun _ => fun
  | [d1, d2, d3] => { results := [.lit (.bool true)], args := [d1, d2, d3] }
  | _ => none }
def gfRingRow : OpenClaim := { program := "ytcfkldbcmbgomaa", sum := "5fbe7a25f0b0c7f71a967f563a5a6aa46f4428be47472d25df0068b44ab01172", func := "corncrib/corncriblaw01.GfRing", spec := "gfRing", apart := false }
def GfRingSaid : Prop := gfRingRow.holds Try.pinned (OpenSpec.ofChange gfRingSpec)

/-- ITS FALSE NEIGHBOUR: 'it returns false'. Refute it at one input. -/
def gfRingWrong : ChangeSpec := { name := "gfRing", fn := fun _ => fun
  | [d1, d2, d3] => { results := [.lit (.bool false)], args := [d1, d2, d3] }
  | _ => none }
def GfRingWrongFalsely : Prop := gfRingRow.holds Try.pinned (OpenSpec.ofChange gfRingWrong)

/-- 'corncriblaw01.GfLogs': WHATEVER THE INPUT: true; the input reads as it did. -/
def gfLogsSpec : ChangeSpec := { name := "gfLogs", fn := fun _ => fun
  | [d1, d2, d3] => { results := [.lit (.bool true)], args := [d1, d2, d3] }
  | _ => none }
def gfLogsRow : OpenClaim := { program := "ytcfkldbcmbgomaa", sum := "5fbe7a25f0b0c7f71a967f563a5a6aa46f4428be47472d25df0068b44ab01172", func := "corncrib/corncriblaw01.GfLogs", spec := "gfLogs", apart := false }
def GfLogsSaid : Prop := gfLogsRow.holds Try.pinned (OpenSpec.ofChange gfLogsSpec)

/-- ITS FALSE NEIGHBOUR: 'it returns false'. Refute it at one input. -/
def gfLogsWrong : ChangeSpec := { name := "gfLogs", fn := fun _ => fun
  | [d1, d2, d3] => { results := [.lit (.bool false)], args := [d1, d2, d3] }
  | _ => none }
def GfLogsWrongFalsely : Prop := gfLogsRow.holds Try.pinned (OpenSpec.ofChange gfLogsWrong)

/-- 'corncriblaw01.GfPowersOf': WHATEVER THE INPUT: true; the input reads as it did. -/
def gfPowersOfSpec : ChangeSpec := { name := "gfPowersOf", fn := fun _ => fun
  | [d1, d2] => { results := [.lit (.bool true)], args := [d1, d2] }
  | _ => none }
def gfPowersOfRow : OpenClaim := { program := "ytcfkldbcmbgomaa", sum := "5fbe7a25f0b0c7f71a967f563a5a6aa46f4428be47472d25df0068b44ab01172", func := "corncrib/corncriblaw01.GfPowersOf", spec := "gfPowersOf", apart := false }
def GfPowersOfSaid : Prop := gfPowersOfRow.holds Try.pinned (OpenSpec.ofChange gfPowersOfSpec)

/-- ITS FALSE NEIGHBOUR: 'it returns false'. Refute it at one input. -/
def gfPowersOfWrong : ChangeSpec := { name := "gfPowersOf", fn := fun _ => fun
  | [d1, d2] => { results := [.lit (.bool false)], args := [d1, d2] }
  | _ => none }
def GfPowersOfWrongFalsely : Prop := gfPowersOfRow.holds Try.pinned (OpenSpec.ofChange gfPowersOfWrong)

/-- 'corncriblaw01.GfLinear': WHATEVER THE INPUT: true; the input reads as it did. -/
def gfLinearSpec : ChangeSpec := { name := "gfLinear", fn := fun _ => fun
  | [d1, d2, d3] => { results := [.lit (.bool true)], args := [d1, d2, d3] }
  | _ => none }
def gfLinearRow : OpenClaim := { program := "ytcfkldbcmbgomaa", sum := "5fbe7a25f0b0c7f71a967f563a5a6aa46f4428be47472d25df0068b44ab01172", func := "corncrib/corncriblaw01.GfLinear", spec := "gfLinear", apart := false }
def GfLinearSaid : Prop := gfLinearRow.holds Try.pinned (OpenSpec.ofChange gfLinearSpec)

/-- ITS FALSE NEIGHBOUR: 'it returns false'. Refute it at one input. -/
def gfLinearWrong : ChangeSpec := { name := "gfLinear", fn := fun _ => fun
  | [d1, d2, d3] => { results := [.lit (.bool false)], args := [d1, d2, d3] }
  | _ => none }
def GfLinearWrongFalsely : Prop := gfLinearRow.holds Try.pinned (OpenSpec.ofChange gfLinearWrong)

/- THE SECOND FORM. 'bulk': how many values and letters a reading holds, each counted each time it is reached (what is shared counts as often as it is met; a slice's spare places count too). A statement '..UptoSaid' is the law's where the arguments, and the package variables that the reading takes, are together of bulk at most 1048576: NARROWER than '..Said'. Prove '..Said' where nothing that the law and all that it calls make is longer than what came in: it says more and counts as full. Else prove '..UptoSaid'. A law counts once. -/
mutual
def uptoBulk {H : Type} : DataW H → Nat
  | .lit (.string bytes) => bytes.length + 1
  | .lit _ => 1
  | .nil => 1
  | .ptr d => uptoBulk d + 1
  | .slice elems spare => uptoBulkAll elems + uptoBulkAll spare + 1
  | .agg parts => uptoBulkAll parts + 1
  | .iface _ d => uptoBulk d + 1
  | .map entries => uptoBulkEntries entries + 1
  | .held _ => 1
def uptoBulkAll {H : Type} : List (DataW H) → Nat
  | [] => 0
  | d :: r => uptoBulk d + uptoBulkAll r
def uptoBulkEntries {H : Type} : List (Lit × DataW H) → Nat
  | [] => 0
  | x :: r => uptoBulkEntry x + uptoBulkEntries r
def uptoBulkEntry {H : Type} : Lit × DataW H → Nat
  | (.string bytes, d) => bytes.length + uptoBulk d + 1
  | (_, d) => uptoBulk d + 1
 end
def uptoSmall : (H : Type) → List (DataW H) → Bool := fun _ ds => decide (uptoBulkAll ds ≤ 1048576)
def OpenSpec.upto (s : _root_.Go.ChangeSpec) : _root_.Go.OpenSpec := { _root_.Go.OpenSpec.ofChange s with cond := some uptoSmall }

/-- 'corncriblaw01.GfProducts', WHERE WHAT IT READS IS OF BULK AT MOST 1048576: true; the input reads as it did. -/
def gfProductsUptoRow : OpenClaim := { program := "ytcfkldbcmbgomaa", sum := "5fbe7a25f0b0c7f71a967f563a5a6aa46f4428be47472d25df0068b44ab01172", func := "corncrib/corncriblaw01.GfProducts", spec := "gfProducts", apart := false, narrowed := true }
def GfProductsUptoSaid : Prop := gfProductsUptoRow.holds Try.pinned (OpenSpec.upto gfProductsSpec)

/-- 'corncriblaw01.GfInverses', WHERE WHAT IT READS IS OF BULK AT MOST 1048576: true; the input reads as it did. -/
def gfInversesUptoRow : OpenClaim := { program := "ytcfkldbcmbgomaa", sum := "5fbe7a25f0b0c7f71a967f563a5a6aa46f4428be47472d25df0068b44ab01172", func := "corncrib/corncriblaw01.GfInverses", spec := "gfInverses", apart := false, narrowed := true }
def GfInversesUptoSaid : Prop := gfInversesUptoRow.holds Try.pinned (OpenSpec.upto gfInversesSpec)

/-- 'corncriblaw01.GfPowers', WHERE WHAT IT READS IS OF BULK AT MOST 1048576: true; the input reads as it did. -/
def gfPowersUptoRow : OpenClaim := { program := "ytcfkldbcmbgomaa", sum := "5fbe7a25f0b0c7f71a967f563a5a6aa46f4428be47472d25df0068b44ab01172", func := "corncrib/corncriblaw01.GfPowers", spec := "gfPowers", apart := false, narrowed := true }
def GfPowersUptoSaid : Prop := gfPowersUptoRow.holds Try.pinned (OpenSpec.upto gfPowersSpec)

/-- 'corncriblaw01.GfTexts', WHERE WHAT IT READS IS OF BULK AT MOST 1048576: true; the input reads as it did. -/
def gfTextsUptoRow : OpenClaim := { program := "ytcfkldbcmbgomaa", sum := "5fbe7a25f0b0c7f71a967f563a5a6aa46f4428be47472d25df0068b44ab01172", func := "corncrib/corncriblaw01.GfTexts", spec := "gfTexts", apart := false, narrowed := true }
def GfTextsUptoSaid : Prop := gfTextsUptoRow.holds Try.pinned (OpenSpec.upto gfTextsSpec)

/-- 'corncriblaw01.GfBack', WHERE WHAT IT READS IS OF BULK AT MOST 1048576: true; the input reads as it did. -/
def gfBackUptoRow : OpenClaim := { program := "ytcfkldbcmbgomaa", sum := "5fbe7a25f0b0c7f71a967f563a5a6aa46f4428be47472d25df0068b44ab01172", func := "corncrib/corncriblaw01.GfBack", spec := "gfBack", apart := false, narrowed := true }
def GfBackUptoSaid : Prop := gfBackUptoRow.holds Try.pinned (OpenSpec.upto gfBackSpec)

/-- 'corncriblaw01.GfSquares', WHERE WHAT IT READS IS OF BULK AT MOST 1048576: true; the input reads as it did. -/
def gfSquaresUptoRow : OpenClaim := { program := "ytcfkldbcmbgomaa", sum := "5fbe7a25f0b0c7f71a967f563a5a6aa46f4428be47472d25df0068b44ab01172", func := "corncrib/corncriblaw01.GfSquares", spec := "gfSquares", apart := false, narrowed := true }
def GfSquaresUptoSaid : Prop := gfSquaresUptoRow.holds Try.pinned (OpenSpec.upto gfSquaresSpec)

/-- 'corncriblaw01.GfRing', WHERE WHAT IT READS IS OF BULK AT MOST 1048576: true; the input reads as it did. -/
def gfRingUptoRow : OpenClaim := { program := "ytcfkldbcmbgomaa", sum := "5fbe7a25f0b0c7f71a967f563a5a6aa46f4428be47472d25df0068b44ab01172", func := "corncrib/corncriblaw01.GfRing", spec := "gfRing", apart := false, narrowed := true }
def GfRingUptoSaid : Prop := gfRingUptoRow.holds Try.pinned (OpenSpec.upto gfRingSpec)

/-- 'corncriblaw01.GfLogs', WHERE WHAT IT READS IS OF BULK AT MOST 1048576: true; the input reads as it did. -/
def gfLogsUptoRow : OpenClaim := { program := "ytcfkldbcmbgomaa", sum := "5fbe7a25f0b0c7f71a967f563a5a6aa46f4428be47472d25df0068b44ab01172", func := "corncrib/corncriblaw01.GfLogs", spec := "gfLogs", apart := false, narrowed := true }
def GfLogsUptoSaid : Prop := gfLogsUptoRow.holds Try.pinned (OpenSpec.upto gfLogsSpec)

/-- 'corncriblaw01.GfPowersOf', WHERE WHAT IT READS IS OF BULK AT MOST 1048576: true; the input reads as it did. -/
def gfPowersOfUptoRow : OpenClaim := { program := "ytcfkldbcmbgomaa", sum := "5fbe7a25f0b0c7f71a967f563a5a6aa46f4428be47472d25df0068b44ab01172", func := "corncrib/corncriblaw01.GfPowersOf", spec := "gfPowersOf", apart := false, narrowed := true }
def GfPowersOfUptoSaid : Prop := gfPowersOfUptoRow.holds Try.pinned (OpenSpec.upto gfPowersOfSpec)

/-- 'corncriblaw01.GfLinear', WHERE WHAT IT READS IS OF BULK AT MOST 1048576: true; the input reads as it did. -/
def gfLinearUptoRow : OpenClaim := { program := "ytcfkldbcmbgomaa", sum := "5fbe7a25f0b0c7f71a967f563a5a6aa46f4428be47472d25df0068b44ab01172", func := "corncrib/corncriblaw01.GfLinear", spec := "gfLinear", apart := false, narrowed := true }
def GfLinearUptoSaid : Prop := gfLinearUptoRow.holds Try.pinned (OpenSpec.upto gfLinearSpec)

end Rows
end Go.Proofs.Ytcfkldbcmbgomaa
