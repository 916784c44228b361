/- Part of the proof of LawDriversOrder: every definition and lemma is one that it names. -/
import Derived.Test.YtojankgmedccdaaQPRsx0
import Derived.Test.YtojankgmedccdaaQPRsx1
import Derived.Test.YtojankgmedccdaaQAwB
import Derived.Test.YtojankgmedccdaaQPIsx3
import Derived.Test.YtojankgmedccdaaQPRsx4
section
namespace Go.Proofs.Ytojankgmedccdaa.PRs
open Go.RowKit Own PTy Hand PIs PAw YtojankgmedccdaaW.PrintWords YtojankgmedccdaaW.PrintLast YtojankgmedccdaaW.PrintMore
attribute [local go_sem] max2_int min2_int max_two min_two max_three min_three max_four min_four
set_option linter.unusedVariables false
set_option linter.unusedSimpArgs false
end Go.Proofs.Ytojankgmedccdaa.PRs
end
section
namespace Go.Proofs.Ytojankgmedccdaa.PRs
open Go.RowKit Own PTy Hand PIs PAw YtojankgmedccdaaW.PrintWords YtojankgmedccdaaW.PrintLast YtojankgmedccdaaW.PrintMore
attribute [local go_sem] max2_int min2_int max_two min_two max_three min_three max_four min_four
set_option linter.unusedVariables false
set_option linter.unusedSimpArgs false
end Go.Proofs.Ytojankgmedccdaa.PRs
end
section
namespace Go.Proofs.Ytojankgmedccdaa.PRs
open Go.RowKit Own PTy Hand PIs PAw YtojankgmedccdaaW.PrintWords YtojankgmedccdaaW.PrintLast YtojankgmedccdaaW.PrintMore
attribute [local go_sem] max2_int min2_int max_two min_two max_three min_three max_four min_four
set_option linter.unusedVariables false
set_option linter.unusedSimpArgs false
end Go.Proofs.Ytojankgmedccdaa.PRs
end
