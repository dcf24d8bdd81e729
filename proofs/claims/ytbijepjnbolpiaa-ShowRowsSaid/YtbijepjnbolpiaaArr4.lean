/- What may be, as the reference tells it; how deep an array is, as both tell it. -/
import Derived.Test.YtbijepjnbolpiaaArr3
import Derived.Test.YtbijepjnbolpiaaArr2
import Derived.Test.YtbijepjnbolpiaaPx7
namespace Go.Proofs.Ytbijepjnbolpiaa.Pure
open Go.RowKit Go.Proofs.Ytbijepjnbolpiaa.P Go.Proofs.Ytbijepjnbolpiaa.Nest Go.Proofs.YtbijepjnbolpiaaW.PrintWords Go.Proofs.YtbijepjnbolpiaaW.PrintLast Go.Proofs.YtbijepjnbolpiaaW.PrintMore
set_option linter.unusedVariables false
set_option linter.unusedSimpArgs false
end Go.Proofs.Ytbijepjnbolpiaa.Pure
