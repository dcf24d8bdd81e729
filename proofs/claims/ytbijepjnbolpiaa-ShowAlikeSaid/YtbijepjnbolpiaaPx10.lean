/- Written by a program of this session: the functions that the laws reach, what each comes to, and each law as it is stated, for every input. No condition. -/
import Derived.Test.YtbijepjnbolpiaaPx0
import Derived.Test.YtbijepjnbolpiaaPx2
import Derived.Test.YtbijepjnbolpiaaPx5
import Derived.Test.YtbijepjnbolpiaaPx6
import Derived.Test.YtbijepjnbolpiaaPx7
import Derived.Test.YtbijepjnbolpiaaPx9
namespace Go.Proofs.Ytbijepjnbolpiaa.P
open Go.RowKit Go.Proofs.YtbijepjnbolpiaaW.PrintWords Go.Proofs.YtbijepjnbolpiaaW.PrintLast Go.Proofs.YtbijepjnbolpiaaW.PrintMore
attribute [local go_sem] max2_int min2_int max_two min_two max_three min_three max_four min_four   -- for this text's walks alone
set_option linter.unusedVariables false
set_option linter.unusedSimpArgs false
end Go.Proofs.Ytbijepjnbolpiaa.P
