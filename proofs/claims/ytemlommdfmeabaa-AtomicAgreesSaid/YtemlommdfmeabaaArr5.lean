/- How arrays stand to one another: the reference tells what the package tells. -/
import Derived.Test.YtemlommdfmeabaaArr1
import Derived.Test.YtemlommdfmeabaaPx10
import Derived.Test.YtemlommdfmeabaaPx11
import Derived.Test.YtemlommdfmeabaaPx12
namespace Go.Proofs.Ytemlommdfmeabaa.Pure
open Go.RowKit Go.Proofs.Ytemlommdfmeabaa.P Go.Proofs.Ytemlommdfmeabaa.Nest Go.Proofs.YtemlommdfmeabaaW.PrintWords Go.Proofs.YtemlommdfmeabaaW.PrintLast Go.Proofs.YtemlommdfmeabaaW.PrintMore
set_option linter.unusedVariables false
set_option linter.unusedSimpArgs false
end Go.Proofs.Ytemlommdfmeabaa.Pure
