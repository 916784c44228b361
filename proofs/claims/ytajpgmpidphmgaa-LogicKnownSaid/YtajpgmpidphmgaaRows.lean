/-
  No cell of these rows narrows 'for every input' (looked for: loops, veiled, ifaces, maps, wideKeys, modest, calm, conditions, laid).
  DERIVED. THE GIVEN ROWS OF THIS SEAT. 10 by the template 'for every input the law returns true; each argument reads behind the call as it read before'; 0 by the template 'total and deterministic' (their statements: YtajpgmpidphmgaaTotals.lean).
  GIVEN WITH THE SEED: the statements are not yours to turn. If you find one false, say at which input.
  Laid BY PROGRAM, IN A SANDBOX (cutbox-rows.mjs): the forced cells as the released guide's own fill.sh prints them over the translation 36e903111e078848… (all of the seat's roots in one cut). By AI agents, Wed Nov 11 2026. No macro, syntax, notation, axiom, sorry.
-/
import Derived.Test.YtajpgmpidphmgaaChecked
import GoSem.Claim
import GoSem.ClaimJoined
import GoSem.ClaimMapViews
import Derived.JoinedTies
import Derived.KernelRfl
namespace Go.Proofs.Ytajpgmpidphmgaa
/- THE CELL 'sum', in the pinned program and in every row, IS THE sha256 OF THE DUMP (.gsa) THAT YtajpgmpidphmgaaProg.lean LOADS. Nothing in Lean hashes anything: it is a label: what it is worth is what the hold of that sum in a sandbox is worth. -/
noncomputable def Try.pinned : Pinned := { name := "ytajpgmpidphmgaa", sum := "36e903111e0788486b7d7f228d7d86ea1c831ffba006ab9129e4fe75f223228a", checked := Try.checked }
namespace Rows
def none {H : Type} : Left H := { results := [], args := [] }

/-- 'netwrightlaw01.LogicTables': WHATEVER THE INPUT: true; the input reads as it did. -/
def logicTablesSpec : ChangeSpec := { name := "logicTables", fn := fun _ => fun
  | [d1, d2, d3] => { results := [.lit (.bool true)], args := [d1, d2, d3] }
  | _ => none }
def logicTablesRow : OpenClaim := { program := "ytajpgmpidphmgaa", sum := "36e903111e0788486b7d7f228d7d86ea1c831ffba006ab9129e4fe75f223228a", func := "netwright/netwrightlaw01.LogicTables", spec := "logicTables", inPlace := ["internal/abi.NoEscape", "internal/bytealg.IndexByteString"], unfollowed := true, recurses := true, apart := false }
def LogicTablesSaid : Prop := logicTablesRow.holds Try.pinned (OpenSpec.ofChange logicTablesSpec)

/-- ITS FALSE NEIGHBOUR: 'it returns false'. Refute it at one input. -/
def logicTablesWrong : ChangeSpec := { name := "logicTables", fn := fun _ => fun
  | [d1, d2, d3] => { results := [.lit (.bool false)], args := [d1, d2, d3] }
  | _ => none }
def LogicTablesWrongFalsely : Prop := logicTablesRow.holds Try.pinned (OpenSpec.ofChange logicTablesWrong)

/-- 'netwrightlaw01.LogicResolves': WHATEVER THE INPUT: true; the input reads as it did. -/
def logicResolvesSpec : ChangeSpec := { name := "logicResolves", fn := fun _ => fun
  | [d] => { results := [.lit (.bool true)], args := [d] }
  | _ => none }
def logicResolvesRow : OpenClaim := { program := "ytajpgmpidphmgaa", sum := "36e903111e0788486b7d7f228d7d86ea1c831ffba006ab9129e4fe75f223228a", func := "netwright/netwrightlaw01.LogicResolves", spec := "logicResolves", inPlace := ["internal/abi.NoEscape", "internal/bytealg.IndexByteString"], unfollowed := true, recurses := true, apart := false }
def LogicResolvesSaid : Prop := logicResolvesRow.holds Try.pinned (OpenSpec.ofChange logicResolvesSpec)

/-- ITS FALSE NEIGHBOUR: 'it returns false'. Refute it at one input. -/
def logicResolvesWrong : ChangeSpec := { name := "logicResolves", fn := fun _ => fun
  | [d] => { results := [.lit (.bool false)], args := [d] }
  | _ => none }
def LogicResolvesWrongFalsely : Prop := logicResolvesRow.holds Try.pinned (OpenSpec.ofChange logicResolvesWrong)

/-- 'netwrightlaw01.LogicReads': WHATEVER THE INPUT: true; the input reads as it did. -/
def logicReadsSpec : ChangeSpec := { name := "logicReads", fn := fun _ => fun
  | [d] => { results := [.lit (.bool true)], args := [d] }
  | _ => none }
def logicReadsRow : OpenClaim := { program := "ytajpgmpidphmgaa", sum := "36e903111e0788486b7d7f228d7d86ea1c831ffba006ab9129e4fe75f223228a", func := "netwright/netwrightlaw01.LogicReads", spec := "logicReads", inPlace := ["internal/abi.NoEscape", "internal/bytealg.IndexByteString"], unfollowed := true, recurses := true, apart := false }
def LogicReadsSaid : Prop := logicReadsRow.holds Try.pinned (OpenSpec.ofChange logicReadsSpec)

/-- ITS FALSE NEIGHBOUR: 'it returns false'. Refute it at one input. -/
def logicReadsWrong : ChangeSpec := { name := "logicReads", fn := fun _ => fun
  | [d] => { results := [.lit (.bool false)], args := [d] }
  | _ => none }
def LogicReadsWrongFalsely : Prop := logicReadsRow.holds Try.pinned (OpenSpec.ofChange logicReadsWrong)

/-- 'netwrightlaw01.LogicTexts': WHATEVER THE INPUT: true; the input reads as it did. -/
def logicTextsSpec : ChangeSpec := { name := "logicTexts", fn := fun _ => fun
  | [d] => { results := [.lit (.bool true)], args := [d] }
  | _ => none }
def logicTextsRow : OpenClaim := { program := "ytajpgmpidphmgaa", sum := "36e903111e0788486b7d7f228d7d86ea1c831ffba006ab9129e4fe75f223228a", func := "netwright/netwrightlaw01.LogicTexts", spec := "logicTexts", inPlace := ["internal/abi.NoEscape", "internal/bytealg.IndexByteString"], unfollowed := true, recurses := true, apart := false }
def LogicTextsSaid : Prop := logicTextsRow.holds Try.pinned (OpenSpec.ofChange logicTextsSpec)

/-- ITS FALSE NEIGHBOUR: 'it returns false'. Refute it at one input. -/
def logicTextsWrong : ChangeSpec := { name := "logicTexts", fn := fun _ => fun
  | [d] => { results := [.lit (.bool false)], args := [d] }
  | _ => none }
def LogicTextsWrongFalsely : Prop := logicTextsRow.holds Try.pinned (OpenSpec.ofChange logicTextsWrong)

/-- 'netwrightlaw01.LogicOrders': WHATEVER THE INPUT: true; the input reads as it did. -/
def logicOrdersSpec : ChangeSpec := { name := "logicOrders", fn := fun _ => fun
  | [d1, d2, d3] => { results := [.lit (.bool true)], args := [d1, d2, d3] }
  | _ => none }
def logicOrdersRow : OpenClaim := { program := "ytajpgmpidphmgaa", sum := "36e903111e0788486b7d7f228d7d86ea1c831ffba006ab9129e4fe75f223228a", func := "netwright/netwrightlaw01.LogicOrders", spec := "logicOrders", inPlace := ["internal/abi.NoEscape", "internal/bytealg.IndexByteString"], unfollowed := true, recurses := true, apart := false }
def LogicOrdersSaid : Prop := logicOrdersRow.holds Try.pinned (OpenSpec.ofChange logicOrdersSpec)

/-- ITS FALSE NEIGHBOUR: 'it returns false'. Refute it at one input. -/
def logicOrdersWrong : ChangeSpec := { name := "logicOrders", fn := fun _ => fun
  | [d1, d2, d3] => { results := [.lit (.bool false)], args := [d1, d2, d3] }
  | _ => none }
def LogicOrdersWrongFalsely : Prop := logicOrdersRow.holds Try.pinned (OpenSpec.ofChange logicOrdersWrong)

/-- 'netwrightlaw01.LogicOpposites': WHATEVER THE INPUT: true; the input reads as it did. -/
def logicOppositesSpec : ChangeSpec := { name := "logicOpposites", fn := fun _ => fun
  | [d1, d2] => { results := [.lit (.bool true)], args := [d1, d2] }
  | _ => none }
def logicOppositesRow : OpenClaim := { program := "ytajpgmpidphmgaa", sum := "36e903111e0788486b7d7f228d7d86ea1c831ffba006ab9129e4fe75f223228a", func := "netwright/netwrightlaw01.LogicOpposites", spec := "logicOpposites", inPlace := ["internal/abi.NoEscape", "internal/bytealg.IndexByteString"], unfollowed := true, recurses := true, apart := false }
def LogicOppositesSaid : Prop := logicOppositesRow.holds Try.pinned (OpenSpec.ofChange logicOppositesSpec)

/-- ITS FALSE NEIGHBOUR: 'it returns false'. Refute it at one input. -/
def logicOppositesWrong : ChangeSpec := { name := "logicOpposites", fn := fun _ => fun
  | [d1, d2] => { results := [.lit (.bool false)], args := [d1, d2] }
  | _ => none }
def LogicOppositesWrongFalsely : Prop := logicOppositesRow.holds Try.pinned (OpenSpec.ofChange logicOppositesWrong)

/-- 'netwrightlaw01.LogicDriven': WHATEVER THE INPUT: true; the input reads as it did. -/
def logicDrivenSpec : ChangeSpec := { name := "logicDriven", fn := fun _ => fun
  | [d1, d2] => { results := [.lit (.bool true)], args := [d1, d2] }
  | _ => none }
def logicDrivenRow : OpenClaim := { program := "ytajpgmpidphmgaa", sum := "36e903111e0788486b7d7f228d7d86ea1c831ffba006ab9129e4fe75f223228a", func := "netwright/netwrightlaw01.LogicDriven", spec := "logicDriven", inPlace := ["internal/abi.NoEscape", "internal/bytealg.IndexByteString"], unfollowed := true, recurses := true, apart := false }
def LogicDrivenSaid : Prop := logicDrivenRow.holds Try.pinned (OpenSpec.ofChange logicDrivenSpec)

/-- ITS FALSE NEIGHBOUR: 'it returns false'. Refute it at one input. -/
def logicDrivenWrong : ChangeSpec := { name := "logicDriven", fn := fun _ => fun
  | [d1, d2] => { results := [.lit (.bool false)], args := [d1, d2] }
  | _ => none }
def LogicDrivenWrongFalsely : Prop := logicDrivenRow.holds Try.pinned (OpenSpec.ofChange logicDrivenWrong)

/-- 'netwrightlaw01.LogicJoins': WHATEVER THE INPUT: true; the input reads as it did. -/
def logicJoinsSpec : ChangeSpec := { name := "logicJoins", fn := fun _ => fun
  | [d] => { results := [.lit (.bool true)], args := [d] }
  | _ => none }
def logicJoinsRow : OpenClaim := { program := "ytajpgmpidphmgaa", sum := "36e903111e0788486b7d7f228d7d86ea1c831ffba006ab9129e4fe75f223228a", func := "netwright/netwrightlaw01.LogicJoins", spec := "logicJoins", inPlace := ["internal/abi.NoEscape", "internal/bytealg.IndexByteString"], unfollowed := true, recurses := true, apart := false }
def LogicJoinsSaid : Prop := logicJoinsRow.holds Try.pinned (OpenSpec.ofChange logicJoinsSpec)

/-- ITS FALSE NEIGHBOUR: 'it returns false'. Refute it at one input. -/
def logicJoinsWrong : ChangeSpec := { name := "logicJoins", fn := fun _ => fun
  | [d] => { results := [.lit (.bool false)], args := [d] }
  | _ => none }
def LogicJoinsWrongFalsely : Prop := logicJoinsRow.holds Try.pinned (OpenSpec.ofChange logicJoinsWrong)

/-- 'netwrightlaw01.LogicKnown': WHATEVER THE INPUT: true; the input reads as it did. -/
def logicKnownSpec : ChangeSpec := { name := "logicKnown", fn := fun _ => fun
  | [d1, d2] => { results := [.lit (.bool true)], args := [d1, d2] }
  | _ => none }
def logicKnownRow : OpenClaim := { program := "ytajpgmpidphmgaa", sum := "36e903111e0788486b7d7f228d7d86ea1c831ffba006ab9129e4fe75f223228a", func := "netwright/netwrightlaw01.LogicKnown", spec := "logicKnown", inPlace := ["internal/abi.NoEscape", "internal/bytealg.IndexByteString"], unfollowed := true, recurses := true, apart := false }
def LogicKnownSaid : Prop := logicKnownRow.holds Try.pinned (OpenSpec.ofChange logicKnownSpec)

/-- ITS FALSE NEIGHBOUR: 'it returns false'. Refute it at one input. -/
def logicKnownWrong : ChangeSpec := { name := "logicKnown", fn := fun _ => fun
  | [d1, d2] => { results := [.lit (.bool false)], args := [d1, d2] }
  | _ => none }
def LogicKnownWrongFalsely : Prop := logicKnownRow.holds Try.pinned (OpenSpec.ofChange logicKnownWrong)

/-- 'netwrightlaw01.LogicVectors': WHATEVER THE INPUT: true; the input reads as it did. -/
def logicVectorsSpec : ChangeSpec := { name := "logicVectors", fn := fun _ => fun
  | [d1, d2, d3] => { results := [.lit (.bool true)], args := [d1, d2, d3] }
  | _ => none }
def logicVectorsRow : OpenClaim := { program := "ytajpgmpidphmgaa", sum := "36e903111e0788486b7d7f228d7d86ea1c831ffba006ab9129e4fe75f223228a", func := "netwright/netwrightlaw01.LogicVectors", spec := "logicVectors", inPlace := ["internal/abi.NoEscape", "internal/bytealg.IndexByteString"], unfollowed := true, recurses := true, apart := false }
def LogicVectorsSaid : Prop := logicVectorsRow.holds Try.pinned (OpenSpec.ofChange logicVectorsSpec)

/-- ITS FALSE NEIGHBOUR: 'it returns false'. Refute it at one input. -/
def logicVectorsWrong : ChangeSpec := { name := "logicVectors", fn := fun _ => fun
  | [d1, d2, d3] => { results := [.lit (.bool false)], args := [d1, d2, d3] }
  | _ => none }
def LogicVectorsWrongFalsely : Prop := logicVectorsRow.holds Try.pinned (OpenSpec.ofChange logicVectorsWrong)

/- THE SECOND FORM. 'bulk': how many values and letters a reading holds, each counted each time it is reached (what is shared counts as often as it is met; a slice's spare places count too). A statement '..UptoSaid' is the law's where the arguments, and the package variables that the reading takes, are together of bulk at most 1048576: NARROWER than '..Said'. Prove '..Said' where nothing that the law and all that it calls make is longer than what came in: it says more and counts as full. Else prove '..UptoSaid'. A law counts once. -/
mutual
def uptoBulk {H : Type} : DataW H → Nat
  | .lit (.string bytes) => bytes.length + 1
  | .lit _ => 1
  | .nil => 1
  | .ptr d => uptoBulk d + 1
  | .slice elems spare => uptoBulkAll elems + uptoBulkAll spare + 1
  | .agg parts => uptoBulkAll parts + 1
  | .iface _ d => uptoBulk d + 1
  | .map entries => uptoBulkEntries entries + 1
  | .held _ => 1
def uptoBulkAll {H : Type} : List (DataW H) → Nat
  | [] => 0
  | d :: r => uptoBulk d + uptoBulkAll r
def uptoBulkEntries {H : Type} : List (Lit × DataW H) → Nat
  | [] => 0
  | x :: r => uptoBulkEntry x + uptoBulkEntries r
def uptoBulkEntry {H : Type} : Lit × DataW H → Nat
  | (.string bytes, d) => bytes.length + uptoBulk d + 1
  | (_, d) => uptoBulk d + 1
 end
def uptoSmall : (H : Type) → List (DataW H) → Bool := fun _ ds => decide (uptoBulkAll ds ≤ 1048576)
def OpenSpec.upto (s : _root_.Go.ChangeSpec) : _root_.Go.OpenSpec := { _root_.Go.OpenSpec.ofChange s with cond := some uptoSmall }

/-- 'netwrightlaw01.LogicTables', WHERE WHAT IT READS IS OF BULK AT MOST 1048576: true; the input reads as it did. -/
def logicTablesUptoRow : OpenClaim := { program := "ytajpgmpidphmgaa", sum := "36e903111e0788486b7d7f228d7d86ea1c831ffba006ab9129e4fe75f223228a", func := "netwright/netwrightlaw01.LogicTables", spec := "logicTables", inPlace := ["internal/abi.NoEscape", "internal/bytealg.IndexByteString"], unfollowed := true, recurses := true, apart := false, narrowed := true }
def LogicTablesUptoSaid : Prop := logicTablesUptoRow.holds Try.pinned (OpenSpec.upto logicTablesSpec)

/-- 'netwrightlaw01.LogicResolves', WHERE WHAT IT READS IS OF BULK AT MOST 1048576: true; the input reads as it did. -/
def logicResolvesUptoRow : OpenClaim := { program := "ytajpgmpidphmgaa", sum := "36e903111e0788486b7d7f228d7d86ea1c831ffba006ab9129e4fe75f223228a", func := "netwright/netwrightlaw01.LogicResolves", spec := "logicResolves", inPlace := ["internal/abi.NoEscape", "internal/bytealg.IndexByteString"], unfollowed := true, recurses := true, apart := false, narrowed := true }
def LogicResolvesUptoSaid : Prop := logicResolvesUptoRow.holds Try.pinned (OpenSpec.upto logicResolvesSpec)

/-- 'netwrightlaw01.LogicReads', WHERE WHAT IT READS IS OF BULK AT MOST 1048576: true; the input reads as it did. -/
def logicReadsUptoRow : OpenClaim := { program := "ytajpgmpidphmgaa", sum := "36e903111e0788486b7d7f228d7d86ea1c831ffba006ab9129e4fe75f223228a", func := "netwright/netwrightlaw01.LogicReads", spec := "logicReads", inPlace := ["internal/abi.NoEscape", "internal/bytealg.IndexByteString"], unfollowed := true, recurses := true, apart := false, narrowed := true }
def LogicReadsUptoSaid : Prop := logicReadsUptoRow.holds Try.pinned (OpenSpec.upto logicReadsSpec)

/-- 'netwrightlaw01.LogicTexts', WHERE WHAT IT READS IS OF BULK AT MOST 1048576: true; the input reads as it did. -/
def logicTextsUptoRow : OpenClaim := { program := "ytajpgmpidphmgaa", sum := "36e903111e0788486b7d7f228d7d86ea1c831ffba006ab9129e4fe75f223228a", func := "netwright/netwrightlaw01.LogicTexts", spec := "logicTexts", inPlace := ["internal/abi.NoEscape", "internal/bytealg.IndexByteString"], unfollowed := true, recurses := true, apart := false, narrowed := true }
def LogicTextsUptoSaid : Prop := logicTextsUptoRow.holds Try.pinned (OpenSpec.upto logicTextsSpec)

/-- 'netwrightlaw01.LogicOrders', WHERE WHAT IT READS IS OF BULK AT MOST 1048576: true; the input reads as it did. -/
def logicOrdersUptoRow : OpenClaim := { program := "ytajpgmpidphmgaa", sum := "36e903111e0788486b7d7f228d7d86ea1c831ffba006ab9129e4fe75f223228a", func := "netwright/netwrightlaw01.LogicOrders", spec := "logicOrders", inPlace := ["internal/abi.NoEscape", "internal/bytealg.IndexByteString"], unfollowed := true, recurses := true, apart := false, narrowed := true }
def LogicOrdersUptoSaid : Prop := logicOrdersUptoRow.holds Try.pinned (OpenSpec.upto logicOrdersSpec)

/-- 'netwrightlaw01.LogicOpposites', WHERE WHAT IT READS IS OF BULK AT MOST 1048576: true; the input reads as it did. -/
def logicOppositesUptoRow : OpenClaim := { program := "ytajpgmpidphmgaa", sum := "36e903111e0788486b7d7f228d7d86ea1c831ffba006ab9129e4fe75f223228a", func := "netwright/netwrightlaw01.LogicOpposites", spec := "logicOpposites", inPlace := ["internal/abi.NoEscape", "internal/bytealg.IndexByteString"], unfollowed := true, recurses := true, apart := false, narrowed := true }
def LogicOppositesUptoSaid : Prop := logicOppositesUptoRow.holds Try.pinned (OpenSpec.upto logicOppositesSpec)

/-- 'netwrightlaw01.LogicDriven', WHERE WHAT IT READS IS OF BULK AT MOST 1048576: true; the input reads as it did. -/
def logicDrivenUptoRow : OpenClaim := { program := "ytajpgmpidphmgaa", sum := "36e903111e0788486b7d7f228d7d86ea1c831ffba006ab9129e4fe75f223228a", func := "netwright/netwrightlaw01.LogicDriven", spec := "logicDriven", inPlace := ["internal/abi.NoEscape", "internal/bytealg.IndexByteString"], unfollowed := true, recurses := true, apart := false, narrowed := true }
def LogicDrivenUptoSaid : Prop := logicDrivenUptoRow.holds Try.pinned (OpenSpec.upto logicDrivenSpec)

/-- 'netwrightlaw01.LogicJoins', WHERE WHAT IT READS IS OF BULK AT MOST 1048576: true; the input reads as it did. -/
def logicJoinsUptoRow : OpenClaim := { program := "ytajpgmpidphmgaa", sum := "36e903111e0788486b7d7f228d7d86ea1c831ffba006ab9129e4fe75f223228a", func := "netwright/netwrightlaw01.LogicJoins", spec := "logicJoins", inPlace := ["internal/abi.NoEscape", "internal/bytealg.IndexByteString"], unfollowed := true, recurses := true, apart := false, narrowed := true }
def LogicJoinsUptoSaid : Prop := logicJoinsUptoRow.holds Try.pinned (OpenSpec.upto logicJoinsSpec)

/-- 'netwrightlaw01.LogicKnown', WHERE WHAT IT READS IS OF BULK AT MOST 1048576: true; the input reads as it did. -/
def logicKnownUptoRow : OpenClaim := { program := "ytajpgmpidphmgaa", sum := "36e903111e0788486b7d7f228d7d86ea1c831ffba006ab9129e4fe75f223228a", func := "netwright/netwrightlaw01.LogicKnown", spec := "logicKnown", inPlace := ["internal/abi.NoEscape", "internal/bytealg.IndexByteString"], unfollowed := true, recurses := true, apart := false, narrowed := true }
def LogicKnownUptoSaid : Prop := logicKnownUptoRow.holds Try.pinned (OpenSpec.upto logicKnownSpec)

/-- 'netwrightlaw01.LogicVectors', WHERE WHAT IT READS IS OF BULK AT MOST 1048576: true; the input reads as it did. -/
def logicVectorsUptoRow : OpenClaim := { program := "ytajpgmpidphmgaa", sum := "36e903111e0788486b7d7f228d7d86ea1c831ffba006ab9129e4fe75f223228a", func := "netwright/netwrightlaw01.LogicVectors", spec := "logicVectors", inPlace := ["internal/abi.NoEscape", "internal/bytealg.IndexByteString"], unfollowed := true, recurses := true, apart := false, narrowed := true }
def LogicVectorsUptoSaid : Prop := logicVectorsUptoRow.holds Try.pinned (OpenSpec.upto logicVectorsSpec)

end Rows
end Go.Proofs.Ytajpgmpidphmgaa
