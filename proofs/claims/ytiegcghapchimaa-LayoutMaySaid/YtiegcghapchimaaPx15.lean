/- Written by a program of this session: the functions that the laws reach, what each comes to, and each law as it is stated, for every input. No condition. -/
import Derived.Test.YtiegcghapchimaaPx0
import Derived.Test.YtiegcghapchimaaPx1
import Derived.Test.YtiegcghapchimaaPx7
import Derived.Test.YtiegcghapchimaaPx9
import Derived.Test.YtiegcghapchimaaPx10
import Derived.Test.YtiegcghapchimaaPx12
import Derived.Test.YtiegcghapchimaaPx13
import Derived.Test.YtiegcghapchimaaPx14
namespace Go.Proofs.Ytiegcghapchimaa.P
open Go.RowKit Go.Proofs.YtiegcghapchimaaW.PrintWords Go.Proofs.YtiegcghapchimaaW.PrintLast Go.Proofs.YtiegcghapchimaaW.PrintMore
attribute [local go_sem] max2_int min2_int max_two min_two max_three min_three max_four min_four   -- for this text's walks alone
set_option linter.unusedVariables false
set_option linter.unusedSimpArgs false
end Go.Proofs.Ytiegcghapchimaa.P
