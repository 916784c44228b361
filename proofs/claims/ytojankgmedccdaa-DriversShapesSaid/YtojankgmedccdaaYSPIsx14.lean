/- Part of the proof of LawDriversShapes: every definition and lemma is one that it names. -/
import Derived.Test.YtojankgmedccdaaYSPIsx0
import Derived.Test.YtojankgmedccdaaYSPIsx3
import Derived.Test.YtojankgmedccdaaYSPIsx6
import Derived.Test.YtojankgmedccdaaYSPIsx10
import Derived.Test.YtojankgmedccdaaYSPIsx11
import Derived.Test.YtojankgmedccdaaYSPIsx13
import Derived.Test.YtojankgmedccdaaYSAwB
namespace Go.Proofs.Ytojankgmedccdaa.PIs
open Go.RowKit Own PTy Hand YtojankgmedccdaaW.PrintWords YtojankgmedccdaaW.PrintLast YtojankgmedccdaaW.PrintMore
attribute [local go_sem] BR BS Bj Bl BH BI BU BX
set_option linter.unusedVariables false
set_option linter.unusedSimpArgs false
end Go.Proofs.Ytojankgmedccdaa.PIs
