/- What the functions of package num, and the reference's, compute: plain facts about whole numbers. -/
import Derived.Test.YtemlommdfmeabaaArr1
import Derived.Test.YtemlommdfmeabaaPx10
import Derived.Test.YtemlommdfmeabaaPx12
import Derived.Test.YtemlommdfmeabaaPx2
import Derived.Test.YtemlommdfmeabaaPx3
import Derived.Test.YtemlommdfmeabaaPx4
import Derived.Test.YtemlommdfmeabaaPx9
namespace Go.Proofs.Ytemlommdfmeabaa.Pure
open Go.RowKit Go.Proofs.Ytemlommdfmeabaa.P Go.Proofs.Ytemlommdfmeabaa.Nest Go.Proofs.YtemlommdfmeabaaW.PrintWords Go.Proofs.YtemlommdfmeabaaW.PrintLast Go.Proofs.YtemlommdfmeabaaW.PrintMore
set_option linter.unusedVariables false
set_option linter.unusedSimpArgs false
end Go.Proofs.Ytemlommdfmeabaa.Pure
