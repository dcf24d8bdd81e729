/- What may be: as the package tells it. -/
import Derived.Test.YtemlommdfmeabaaArr1
import Derived.Test.YtemlommdfmeabaaPx1
import Derived.Test.YtemlommdfmeabaaPx2
namespace Go.Proofs.Ytemlommdfmeabaa.Pure
open Go.RowKit Go.Proofs.Ytemlommdfmeabaa.P Go.Proofs.Ytemlommdfmeabaa.Nest Go.Proofs.YtemlommdfmeabaaW.PrintWords Go.Proofs.YtemlommdfmeabaaW.PrintLast Go.Proofs.YtemlommdfmeabaaW.PrintMore
set_option linter.unusedVariables false
set_option linter.unusedSimpArgs false
end Go.Proofs.Ytemlommdfmeabaa.Pure
