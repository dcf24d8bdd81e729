/- How arrays stand to one another: the reference tells what the package tells. -/
import Derived.Test.YtiegcghapchimaaArr1
import Derived.Test.YtiegcghapchimaaPx10
import Derived.Test.YtiegcghapchimaaPx11
import Derived.Test.YtiegcghapchimaaPx12
namespace Go.Proofs.Ytiegcghapchimaa.Pure
open Go.RowKit Go.Proofs.Ytiegcghapchimaa.P Go.Proofs.Ytiegcghapchimaa.Nest Go.Proofs.YtiegcghapchimaaW.PrintWords Go.Proofs.YtiegcghapchimaaW.PrintLast Go.Proofs.YtiegcghapchimaaW.PrintMore
set_option linter.unusedVariables false
set_option linter.unusedSimpArgs false
end Go.Proofs.Ytiegcghapchimaa.Pure
