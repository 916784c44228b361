/-
  NARROWER THAN 'FOR EVERY INPUT', by the rows' own cells (each row's printed sentence says how): DriversIs: loops · DriversAssigns: loops · DriversTakes: loops · DriversResolves: loops · DriversShapes: loops · DriversKeeps: loops · DriversInertial: loops · DriversGives: loops · DriversLine: loops · DriversAll: loops · DriversOrder: loops · DriversOwn: loops.
  DERIVED. THE GIVEN ROWS OF THIS SEAT. 12 by the template 'for every input the law returns true; each argument reads behind the call as it read before'; 0 by the template 'total and deterministic' (their statements: YtojankgmedccdaaTotals.lean).
  GIVEN WITH THE SEED: the statements are not yours to turn. If you find one false, say at which input.
  Laid BY PROGRAM, IN A SANDBOX (cutbox-rows.mjs): the forced cells as the released guide's own fill.sh prints them over the translation 74e730e802cc9b81… (all of the seat's roots in one cut). By AI agents, Wed Nov 11 2026. No macro, syntax, notation, axiom, sorry.
-/
import Derived.Test.YtojankgmedccdaaChecked
import GoSem.Claim
import GoSem.ClaimJoined
import GoSem.ClaimMapViews
import Derived.JoinedTies
import Derived.KernelRfl
namespace Go.Proofs.Ytojankgmedccdaa
/- THE CELL 'sum', in the pinned program and in every row, IS THE sha256 OF THE DUMP (.gsa) THAT YtojankgmedccdaaProg.lean LOADS. Nothing in Lean hashes anything: it is a label: what it is worth is what the hold of that sum in a sandbox is worth. -/
noncomputable def Try.pinned : Pinned := { name := "ytojankgmedccdaa", sum := "74e730e802cc9b8142e973332f735b30c291b55b429cd24801e63fa072caad6e", checked := Try.checked }
namespace Rows
def none {H : Type} : Left H := { results := [], args := [] }

/-- 'netwrightlaw15.DriversIs': WHATEVER THE INPUT: true; the input reads as it did. -/
def driversIsSpec : ChangeSpec := { name := "driversIs", fn := fun _ => fun
  | [d1, d2] => { results := [.lit (.bool true)], args := [d1, d2] }
  | _ => none }
def driversIsRow : OpenClaim := { program := "ytojankgmedccdaa", sum := "74e730e802cc9b8142e973332f735b30c291b55b429cd24801e63fa072caad6e", func := "netwright/netwrightlaw15.DriversIs", spec := "driversIs", inPlace := ["internal/bytealg.IndexByteString", "internal/bytealg.IndexString"], unfollowed := true, recurses := true, named := ["internal/bytealg.MaxLen"], loops := true, apart := false }
def DriversIsSaid : Prop := driversIsRow.holds Try.pinned (OpenSpec.ofChange driversIsSpec)

/-- ITS FALSE NEIGHBOUR: 'it returns false'. Refute it at one input. -/
def driversIsWrong : ChangeSpec := { name := "driversIs", fn := fun _ => fun
  | [d1, d2] => { results := [.lit (.bool false)], args := [d1, d2] }
  | _ => none }
def DriversIsWrongFalsely : Prop := driversIsRow.holds Try.pinned (OpenSpec.ofChange driversIsWrong)

/-- 'netwrightlaw15.DriversAssigns': WHATEVER THE INPUT: true; the input reads as it did. -/
def driversAssignsSpec : ChangeSpec := { name := "driversAssigns", fn := fun _ => fun
  | [d] => { results := [.lit (.bool true)], args := [d] }
  | _ => none }
def driversAssignsRow : OpenClaim := { program := "ytojankgmedccdaa", sum := "74e730e802cc9b8142e973332f735b30c291b55b429cd24801e63fa072caad6e", func := "netwright/netwrightlaw15.DriversAssigns", spec := "driversAssigns", inPlace := ["internal/bytealg.IndexByteString", "internal/bytealg.IndexString"], unfollowed := true, recurses := true, named := ["internal/bytealg.MaxLen"], loops := true, apart := false }
def DriversAssignsSaid : Prop := driversAssignsRow.holds Try.pinned (OpenSpec.ofChange driversAssignsSpec)

/-- ITS FALSE NEIGHBOUR: 'it returns false'. Refute it at one input. -/
def driversAssignsWrong : ChangeSpec := { name := "driversAssigns", fn := fun _ => fun
  | [d] => { results := [.lit (.bool false)], args := [d] }
  | _ => none }
def DriversAssignsWrongFalsely : Prop := driversAssignsRow.holds Try.pinned (OpenSpec.ofChange driversAssignsWrong)

/-- 'netwrightlaw15.DriversTakes': WHATEVER THE INPUT: true; the input reads as it did. -/
def driversTakesSpec : ChangeSpec := { name := "driversTakes", fn := fun _ => fun
  | [d1, d2, d3] => { results := [.lit (.bool true)], args := [d1, d2, d3] }
  | _ => none }
def driversTakesRow : OpenClaim := { program := "ytojankgmedccdaa", sum := "74e730e802cc9b8142e973332f735b30c291b55b429cd24801e63fa072caad6e", func := "netwright/netwrightlaw15.DriversTakes", spec := "driversTakes", inPlace := ["internal/bytealg.IndexByteString", "internal/bytealg.IndexString"], unfollowed := true, recurses := true, named := ["internal/bytealg.MaxLen"], loops := true, apart := false }
def DriversTakesSaid : Prop := driversTakesRow.holds Try.pinned (OpenSpec.ofChange driversTakesSpec)

/-- ITS FALSE NEIGHBOUR: 'it returns false'. Refute it at one input. -/
def driversTakesWrong : ChangeSpec := { name := "driversTakes", fn := fun _ => fun
  | [d1, d2, d3] => { results := [.lit (.bool false)], args := [d1, d2, d3] }
  | _ => none }
def DriversTakesWrongFalsely : Prop := driversTakesRow.holds Try.pinned (OpenSpec.ofChange driversTakesWrong)

/-- 'netwrightlaw15.DriversResolves': WHATEVER THE INPUT: true; the input reads as it did. -/
def driversResolvesSpec : ChangeSpec := { name := "driversResolves", fn := fun _ => fun
  | [d1, d2] => { results := [.lit (.bool true)], args := [d1, d2] }
  | _ => none }
def driversResolvesRow : OpenClaim := { program := "ytojankgmedccdaa", sum := "74e730e802cc9b8142e973332f735b30c291b55b429cd24801e63fa072caad6e", func := "netwright/netwrightlaw15.DriversResolves", spec := "driversResolves", inPlace := ["internal/bytealg.IndexByteString", "internal/bytealg.IndexString"], unfollowed := true, recurses := true, named := ["internal/bytealg.MaxLen"], loops := true, apart := false }
def DriversResolvesSaid : Prop := driversResolvesRow.holds Try.pinned (OpenSpec.ofChange driversResolvesSpec)

/-- ITS FALSE NEIGHBOUR: 'it returns false'. Refute it at one input. -/
def driversResolvesWrong : ChangeSpec := { name := "driversResolves", fn := fun _ => fun
  | [d1, d2] => { results := [.lit (.bool false)], args := [d1, d2] }
  | _ => none }
def DriversResolvesWrongFalsely : Prop := driversResolvesRow.holds Try.pinned (OpenSpec.ofChange driversResolvesWrong)

/-- 'netwrightlaw15.DriversShapes': WHATEVER THE INPUT: true; the input reads as it did. -/
def driversShapesSpec : ChangeSpec := { name := "driversShapes", fn := fun _ => fun
  | [d1, d2, d3] => { results := [.lit (.bool true)], args := [d1, d2, d3] }
  | _ => none }
def driversShapesRow : OpenClaim := { program := "ytojankgmedccdaa", sum := "74e730e802cc9b8142e973332f735b30c291b55b429cd24801e63fa072caad6e", func := "netwright/netwrightlaw15.DriversShapes", spec := "driversShapes", inPlace := ["internal/bytealg.IndexByteString", "internal/bytealg.IndexString"], unfollowed := true, recurses := true, named := ["internal/bytealg.MaxLen"], loops := true, apart := false }
def DriversShapesSaid : Prop := driversShapesRow.holds Try.pinned (OpenSpec.ofChange driversShapesSpec)

/-- ITS FALSE NEIGHBOUR: 'it returns false'. Refute it at one input. -/
def driversShapesWrong : ChangeSpec := { name := "driversShapes", fn := fun _ => fun
  | [d1, d2, d3] => { results := [.lit (.bool false)], args := [d1, d2, d3] }
  | _ => none }
def DriversShapesWrongFalsely : Prop := driversShapesRow.holds Try.pinned (OpenSpec.ofChange driversShapesWrong)

/-- 'netwrightlaw15.DriversKeeps': WHATEVER THE INPUT: true; the input reads as it did. -/
def driversKeepsSpec : ChangeSpec := { name := "driversKeeps", fn := fun _ => fun
  | [d] => { results := [.lit (.bool true)], args := [d] }
  | _ => none }
def driversKeepsRow : OpenClaim := { program := "ytojankgmedccdaa", sum := "74e730e802cc9b8142e973332f735b30c291b55b429cd24801e63fa072caad6e", func := "netwright/netwrightlaw15.DriversKeeps", spec := "driversKeeps", inPlace := ["internal/bytealg.IndexByteString", "internal/bytealg.IndexString"], unfollowed := true, recurses := true, named := ["internal/bytealg.MaxLen"], loops := true, apart := false }
def DriversKeepsSaid : Prop := driversKeepsRow.holds Try.pinned (OpenSpec.ofChange driversKeepsSpec)

/-- ITS FALSE NEIGHBOUR: 'it returns false'. Refute it at one input. -/
def driversKeepsWrong : ChangeSpec := { name := "driversKeeps", fn := fun _ => fun
  | [d] => { results := [.lit (.bool false)], args := [d] }
  | _ => none }
def DriversKeepsWrongFalsely : Prop := driversKeepsRow.holds Try.pinned (OpenSpec.ofChange driversKeepsWrong)

/-- 'netwrightlaw15.DriversInertial': WHATEVER THE INPUT: true; the input reads as it did. -/
def driversInertialSpec : ChangeSpec := { name := "driversInertial", fn := fun _ => fun
  | [d] => { results := [.lit (.bool true)], args := [d] }
  | _ => none }
def driversInertialRow : OpenClaim := { program := "ytojankgmedccdaa", sum := "74e730e802cc9b8142e973332f735b30c291b55b429cd24801e63fa072caad6e", func := "netwright/netwrightlaw15.DriversInertial", spec := "driversInertial", inPlace := ["internal/bytealg.IndexByteString", "internal/bytealg.IndexString"], unfollowed := true, recurses := true, named := ["internal/bytealg.MaxLen"], loops := true, apart := false }
def DriversInertialSaid : Prop := driversInertialRow.holds Try.pinned (OpenSpec.ofChange driversInertialSpec)

/-- ITS FALSE NEIGHBOUR: 'it returns false'. Refute it at one input. -/
def driversInertialWrong : ChangeSpec := { name := "driversInertial", fn := fun _ => fun
  | [d] => { results := [.lit (.bool false)], args := [d] }
  | _ => none }
def DriversInertialWrongFalsely : Prop := driversInertialRow.holds Try.pinned (OpenSpec.ofChange driversInertialWrong)

/-- 'netwrightlaw15.DriversGives': WHATEVER THE INPUT: true; the input reads as it did. -/
def driversGivesSpec : ChangeSpec := { name := "driversGives", fn := fun _ => fun
  | [d] => { results := [.lit (.bool true)], args := [d] }
  | _ => none }
def driversGivesRow : OpenClaim := { program := "ytojankgmedccdaa", sum := "74e730e802cc9b8142e973332f735b30c291b55b429cd24801e63fa072caad6e", func := "netwright/netwrightlaw15.DriversGives", spec := "driversGives", inPlace := ["internal/bytealg.IndexByteString", "internal/bytealg.IndexString"], unfollowed := true, recurses := true, named := ["internal/bytealg.MaxLen"], loops := true, apart := false }
def DriversGivesSaid : Prop := driversGivesRow.holds Try.pinned (OpenSpec.ofChange driversGivesSpec)

/-- ITS FALSE NEIGHBOUR: 'it returns false'. Refute it at one input. -/
def driversGivesWrong : ChangeSpec := { name := "driversGives", fn := fun _ => fun
  | [d] => { results := [.lit (.bool false)], args := [d] }
  | _ => none }
def DriversGivesWrongFalsely : Prop := driversGivesRow.holds Try.pinned (OpenSpec.ofChange driversGivesWrong)

/-- 'netwrightlaw15.DriversLine': WHATEVER THE INPUT: true; the input reads as it did. -/
def driversLineSpec : ChangeSpec := { name := "driversLine", fn := fun _ => fun
  | [d1, d2, d3] => { results := [.lit (.bool true)], args := [d1, d2, d3] }
  | _ => none }
def driversLineRow : OpenClaim := { program := "ytojankgmedccdaa", sum := "74e730e802cc9b8142e973332f735b30c291b55b429cd24801e63fa072caad6e", func := "netwright/netwrightlaw15.DriversLine", spec := "driversLine", inPlace := ["internal/bytealg.IndexByteString", "internal/bytealg.IndexString"], unfollowed := true, recurses := true, named := ["internal/bytealg.MaxLen"], loops := true, apart := false }
def DriversLineSaid : Prop := driversLineRow.holds Try.pinned (OpenSpec.ofChange driversLineSpec)

/-- ITS FALSE NEIGHBOUR: 'it returns false'. Refute it at one input. -/
def driversLineWrong : ChangeSpec := { name := "driversLine", fn := fun _ => fun
  | [d1, d2, d3] => { results := [.lit (.bool false)], args := [d1, d2, d3] }
  | _ => none }
def DriversLineWrongFalsely : Prop := driversLineRow.holds Try.pinned (OpenSpec.ofChange driversLineWrong)

/-- 'netwrightlaw15.DriversAll': WHATEVER THE INPUT: true; the input reads as it did. -/
def driversAllSpec : ChangeSpec := { name := "driversAll", fn := fun _ => fun
  | [d1, d2] => { results := [.lit (.bool true)], args := [d1, d2] }
  | _ => none }
def driversAllRow : OpenClaim := { program := "ytojankgmedccdaa", sum := "74e730e802cc9b8142e973332f735b30c291b55b429cd24801e63fa072caad6e", func := "netwright/netwrightlaw15.DriversAll", spec := "driversAll", inPlace := ["internal/bytealg.IndexByteString", "internal/bytealg.IndexString"], unfollowed := true, recurses := true, named := ["internal/bytealg.MaxLen"], loops := true, apart := false }
def DriversAllSaid : Prop := driversAllRow.holds Try.pinned (OpenSpec.ofChange driversAllSpec)

/-- ITS FALSE NEIGHBOUR: 'it returns false'. Refute it at one input. -/
def driversAllWrong : ChangeSpec := { name := "driversAll", fn := fun _ => fun
  | [d1, d2] => { results := [.lit (.bool false)], args := [d1, d2] }
  | _ => none }
def DriversAllWrongFalsely : Prop := driversAllRow.holds Try.pinned (OpenSpec.ofChange driversAllWrong)

/-- 'netwrightlaw15.DriversOrder': WHATEVER THE INPUT: true; the input reads as it did. -/
def driversOrderSpec : ChangeSpec := { name := "driversOrder", fn := fun _ => fun
  | [d1, d2, d3] => { results := [.lit (.bool true)], args := [d1, d2, d3] }
  | _ => none }
def driversOrderRow : OpenClaim := { program := "ytojankgmedccdaa", sum := "74e730e802cc9b8142e973332f735b30c291b55b429cd24801e63fa072caad6e", func := "netwright/netwrightlaw15.DriversOrder", spec := "driversOrder", inPlace := ["internal/bytealg.IndexByteString", "internal/bytealg.IndexString"], unfollowed := true, recurses := true, named := ["internal/bytealg.MaxLen"], loops := true, apart := false }
def DriversOrderSaid : Prop := driversOrderRow.holds Try.pinned (OpenSpec.ofChange driversOrderSpec)

/-- ITS FALSE NEIGHBOUR: 'it returns false'. Refute it at one input. -/
def driversOrderWrong : ChangeSpec := { name := "driversOrder", fn := fun _ => fun
  | [d1, d2, d3] => { results := [.lit (.bool false)], args := [d1, d2, d3] }
  | _ => none }
def DriversOrderWrongFalsely : Prop := driversOrderRow.holds Try.pinned (OpenSpec.ofChange driversOrderWrong)

/-- 'netwrightlaw15.DriversOwn': WHATEVER THE INPUT: true; the input reads as it did. -/
def driversOwnSpec : ChangeSpec := { name := "driversOwn", fn := fun _ => fun
  | [d] => { results := [.lit (.bool true)], args := [d] }
  | _ => none }
def driversOwnRow : OpenClaim := { program := "ytojankgmedccdaa", sum := "74e730e802cc9b8142e973332f735b30c291b55b429cd24801e63fa072caad6e", func := "netwright/netwrightlaw15.DriversOwn", spec := "driversOwn", inPlace := ["internal/bytealg.IndexByteString", "internal/bytealg.IndexString"], unfollowed := true, recurses := true, named := ["internal/bytealg.MaxLen"], loops := true, apart := false }
def DriversOwnSaid : Prop := driversOwnRow.holds Try.pinned (OpenSpec.ofChange driversOwnSpec)

/-- ITS FALSE NEIGHBOUR: 'it returns false'. Refute it at one input. -/
def driversOwnWrong : ChangeSpec := { name := "driversOwn", fn := fun _ => fun
  | [d] => { results := [.lit (.bool false)], args := [d] }
  | _ => none }
def DriversOwnWrongFalsely : Prop := driversOwnRow.holds Try.pinned (OpenSpec.ofChange driversOwnWrong)

/- THE SECOND FORM. 'bulk': how many values and letters a reading holds, each counted each time it is reached (what is shared counts as often as it is met; a slice's spare places count too). A statement '..UptoSaid' is the law's where the arguments, and the package variables that the reading takes, are together of bulk at most 1048576: NARROWER than '..Said'. Prove '..Said' where nothing that the law and all that it calls make is longer than what came in: it says more and counts as full. Else prove '..UptoSaid'. A law counts once. -/
mutual
def uptoBulk {H : Type} : DataW H → Nat
  | .lit (.string bytes) => bytes.length + 1
  | .lit _ => 1
  | .nil => 1
  | .ptr d => uptoBulk d + 1
  | .slice elems spare => uptoBulkAll elems + uptoBulkAll spare + 1
  | .agg parts => uptoBulkAll parts + 1
  | .iface _ d => uptoBulk d + 1
  | .map entries => uptoBulkEntries entries + 1
  | .held _ => 1
def uptoBulkAll {H : Type} : List (DataW H) → Nat
  | [] => 0
  | d :: r => uptoBulk d + uptoBulkAll r
def uptoBulkEntries {H : Type} : List (Lit × DataW H) → Nat
  | [] => 0
  | x :: r => uptoBulkEntry x + uptoBulkEntries r
def uptoBulkEntry {H : Type} : Lit × DataW H → Nat
  | (.string bytes, d) => bytes.length + uptoBulk d + 1
  | (_, d) => uptoBulk d + 1
 end
def uptoSmall : (H : Type) → List (DataW H) → Bool := fun _ ds => decide (uptoBulkAll ds ≤ 1048576)
def OpenSpec.upto (s : _root_.Go.ChangeSpec) : _root_.Go.OpenSpec := { _root_.Go.OpenSpec.ofChange s with cond := some uptoSmall }

/-- 'netwrightlaw15.DriversIs', WHERE WHAT IT READS IS OF BULK AT MOST 1048576: true; the input reads as it did. -/
def driversIsUptoRow : OpenClaim := { program := "ytojankgmedccdaa", sum := "74e730e802cc9b8142e973332f735b30c291b55b429cd24801e63fa072caad6e", func := "netwright/netwrightlaw15.DriversIs", spec := "driversIs", inPlace := ["internal/bytealg.IndexByteString", "internal/bytealg.IndexString"], unfollowed := true, recurses := true, named := ["internal/bytealg.MaxLen"], loops := true, apart := false, narrowed := true }
def DriversIsUptoSaid : Prop := driversIsUptoRow.holds Try.pinned (OpenSpec.upto driversIsSpec)

/-- 'netwrightlaw15.DriversAssigns', WHERE WHAT IT READS IS OF BULK AT MOST 1048576: true; the input reads as it did. -/
def driversAssignsUptoRow : OpenClaim := { program := "ytojankgmedccdaa", sum := "74e730e802cc9b8142e973332f735b30c291b55b429cd24801e63fa072caad6e", func := "netwright/netwrightlaw15.DriversAssigns", spec := "driversAssigns", inPlace := ["internal/bytealg.IndexByteString", "internal/bytealg.IndexString"], unfollowed := true, recurses := true, named := ["internal/bytealg.MaxLen"], loops := true, apart := false, narrowed := true }
def DriversAssignsUptoSaid : Prop := driversAssignsUptoRow.holds Try.pinned (OpenSpec.upto driversAssignsSpec)

/-- 'netwrightlaw15.DriversTakes', WHERE WHAT IT READS IS OF BULK AT MOST 1048576: true; the input reads as it did. -/
def driversTakesUptoRow : OpenClaim := { program := "ytojankgmedccdaa", sum := "74e730e802cc9b8142e973332f735b30c291b55b429cd24801e63fa072caad6e", func := "netwright/netwrightlaw15.DriversTakes", spec := "driversTakes", inPlace := ["internal/bytealg.IndexByteString", "internal/bytealg.IndexString"], unfollowed := true, recurses := true, named := ["internal/bytealg.MaxLen"], loops := true, apart := false, narrowed := true }
def DriversTakesUptoSaid : Prop := driversTakesUptoRow.holds Try.pinned (OpenSpec.upto driversTakesSpec)

/-- 'netwrightlaw15.DriversResolves', WHERE WHAT IT READS IS OF BULK AT MOST 1048576: true; the input reads as it did. -/
def driversResolvesUptoRow : OpenClaim := { program := "ytojankgmedccdaa", sum := "74e730e802cc9b8142e973332f735b30c291b55b429cd24801e63fa072caad6e", func := "netwright/netwrightlaw15.DriversResolves", spec := "driversResolves", inPlace := ["internal/bytealg.IndexByteString", "internal/bytealg.IndexString"], unfollowed := true, recurses := true, named := ["internal/bytealg.MaxLen"], loops := true, apart := false, narrowed := true }
def DriversResolvesUptoSaid : Prop := driversResolvesUptoRow.holds Try.pinned (OpenSpec.upto driversResolvesSpec)

/-- 'netwrightlaw15.DriversShapes', WHERE WHAT IT READS IS OF BULK AT MOST 1048576: true; the input reads as it did. -/
def driversShapesUptoRow : OpenClaim := { program := "ytojankgmedccdaa", sum := "74e730e802cc9b8142e973332f735b30c291b55b429cd24801e63fa072caad6e", func := "netwright/netwrightlaw15.DriversShapes", spec := "driversShapes", inPlace := ["internal/bytealg.IndexByteString", "internal/bytealg.IndexString"], unfollowed := true, recurses := true, named := ["internal/bytealg.MaxLen"], loops := true, apart := false, narrowed := true }
def DriversShapesUptoSaid : Prop := driversShapesUptoRow.holds Try.pinned (OpenSpec.upto driversShapesSpec)

/-- 'netwrightlaw15.DriversKeeps', WHERE WHAT IT READS IS OF BULK AT MOST 1048576: true; the input reads as it did. -/
def driversKeepsUptoRow : OpenClaim := { program := "ytojankgmedccdaa", sum := "74e730e802cc9b8142e973332f735b30c291b55b429cd24801e63fa072caad6e", func := "netwright/netwrightlaw15.DriversKeeps", spec := "driversKeeps", inPlace := ["internal/bytealg.IndexByteString", "internal/bytealg.IndexString"], unfollowed := true, recurses := true, named := ["internal/bytealg.MaxLen"], loops := true, apart := false, narrowed := true }
def DriversKeepsUptoSaid : Prop := driversKeepsUptoRow.holds Try.pinned (OpenSpec.upto driversKeepsSpec)

/-- 'netwrightlaw15.DriversInertial', WHERE WHAT IT READS IS OF BULK AT MOST 1048576: true; the input reads as it did. -/
def driversInertialUptoRow : OpenClaim := { program := "ytojankgmedccdaa", sum := "74e730e802cc9b8142e973332f735b30c291b55b429cd24801e63fa072caad6e", func := "netwright/netwrightlaw15.DriversInertial", spec := "driversInertial", inPlace := ["internal/bytealg.IndexByteString", "internal/bytealg.IndexString"], unfollowed := true, recurses := true, named := ["internal/bytealg.MaxLen"], loops := true, apart := false, narrowed := true }
def DriversInertialUptoSaid : Prop := driversInertialUptoRow.holds Try.pinned (OpenSpec.upto driversInertialSpec)

/-- 'netwrightlaw15.DriversGives', WHERE WHAT IT READS IS OF BULK AT MOST 1048576: true; the input reads as it did. -/
def driversGivesUptoRow : OpenClaim := { program := "ytojankgmedccdaa", sum := "74e730e802cc9b8142e973332f735b30c291b55b429cd24801e63fa072caad6e", func := "netwright/netwrightlaw15.DriversGives", spec := "driversGives", inPlace := ["internal/bytealg.IndexByteString", "internal/bytealg.IndexString"], unfollowed := true, recurses := true, named := ["internal/bytealg.MaxLen"], loops := true, apart := false, narrowed := true }
def DriversGivesUptoSaid : Prop := driversGivesUptoRow.holds Try.pinned (OpenSpec.upto driversGivesSpec)

/-- 'netwrightlaw15.DriversLine', WHERE WHAT IT READS IS OF BULK AT MOST 1048576: true; the input reads as it did. -/
def driversLineUptoRow : OpenClaim := { program := "ytojankgmedccdaa", sum := "74e730e802cc9b8142e973332f735b30c291b55b429cd24801e63fa072caad6e", func := "netwright/netwrightlaw15.DriversLine", spec := "driversLine", inPlace := ["internal/bytealg.IndexByteString", "internal/bytealg.IndexString"], unfollowed := true, recurses := true, named := ["internal/bytealg.MaxLen"], loops := true, apart := false, narrowed := true }
def DriversLineUptoSaid : Prop := driversLineUptoRow.holds Try.pinned (OpenSpec.upto driversLineSpec)

/-- 'netwrightlaw15.DriversAll', WHERE WHAT IT READS IS OF BULK AT MOST 1048576: true; the input reads as it did. -/
def driversAllUptoRow : OpenClaim := { program := "ytojankgmedccdaa", sum := "74e730e802cc9b8142e973332f735b30c291b55b429cd24801e63fa072caad6e", func := "netwright/netwrightlaw15.DriversAll", spec := "driversAll", inPlace := ["internal/bytealg.IndexByteString", "internal/bytealg.IndexString"], unfollowed := true, recurses := true, named := ["internal/bytealg.MaxLen"], loops := true, apart := false, narrowed := true }
def DriversAllUptoSaid : Prop := driversAllUptoRow.holds Try.pinned (OpenSpec.upto driversAllSpec)

/-- 'netwrightlaw15.DriversOrder', WHERE WHAT IT READS IS OF BULK AT MOST 1048576: true; the input reads as it did. -/
def driversOrderUptoRow : OpenClaim := { program := "ytojankgmedccdaa", sum := "74e730e802cc9b8142e973332f735b30c291b55b429cd24801e63fa072caad6e", func := "netwright/netwrightlaw15.DriversOrder", spec := "driversOrder", inPlace := ["internal/bytealg.IndexByteString", "internal/bytealg.IndexString"], unfollowed := true, recurses := true, named := ["internal/bytealg.MaxLen"], loops := true, apart := false, narrowed := true }
def DriversOrderUptoSaid : Prop := driversOrderUptoRow.holds Try.pinned (OpenSpec.upto driversOrderSpec)

/-- 'netwrightlaw15.DriversOwn', WHERE WHAT IT READS IS OF BULK AT MOST 1048576: true; the input reads as it did. -/
def driversOwnUptoRow : OpenClaim := { program := "ytojankgmedccdaa", sum := "74e730e802cc9b8142e973332f735b30c291b55b429cd24801e63fa072caad6e", func := "netwright/netwrightlaw15.DriversOwn", spec := "driversOwn", inPlace := ["internal/bytealg.IndexByteString", "internal/bytealg.IndexString"], unfollowed := true, recurses := true, named := ["internal/bytealg.MaxLen"], loops := true, apart := false, narrowed := true }
def DriversOwnUptoSaid : Prop := driversOwnUptoRow.holds Try.pinned (OpenSpec.upto driversOwnSpec)

end Rows
end Go.Proofs.Ytojankgmedccdaa
