-- printed by a program of this session's (wip/myprint.py) out of the translation; Lean checks it
import Derived.Test.YtakobibclhdakaaDoorPFnExactSureOkx0
import Derived.Test.YtakobibclhdakaaDoorPFnExactSureOkx1
import Derived.Test.YtakobibclhdakaaDoorPFnExactSureOkx2
import Derived.Test.YtakobibclhdakaaDoorPFnExactSureOkx3
import Derived.Test.YtakobibclhdakaaDoorPFnExactSureOkx4
import Derived.Test.YtakobibclhdakaaDoorPFnExactSureOkx5
import Derived.Test.YtakobibclhdakaaDoorPFnExactSureOkx6
import Derived.Test.YtakobibclhdakaaDoorPFnExactSureOkx7
import Derived.Test.YtakobibclhdakaaDoorPFnExactSureOkx8
import Derived.Test.YtakobibclhdakaaDoorPFnExactSureOkx9
namespace Go.Proofs.YtakobibclhdakaaDoor.PFnExactSureOk
open Go.RowKit Go.Proofs.YtakobibclhdakaaDoorG Go.Proofs.YtakobibclhdakaaDoorW.PrintWords Go.Proofs.YtakobibclhdakaaDoorW.PrintLast Go.Proofs.YtakobibclhdakaaDoorW.PrintMore
attribute [local go_sem] str_leq str_gtr str_geq max2_int min2_int max_two min_two max_three min_three max_four min_four   -- for this text's walks alone
set_option linter.unusedVariables false
set_option linter.unusedSimpArgs false

end Go.Proofs.YtakobibclhdakaaDoor.PFnExactSureOk
