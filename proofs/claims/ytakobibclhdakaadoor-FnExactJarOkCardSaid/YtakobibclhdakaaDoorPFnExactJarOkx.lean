-- printed by a program of this session's (wip/myprint.py) out of the translation; Lean checks it
import Derived.Test.YtakobibclhdakaaDoorPFnExactJarOkx0
import Derived.Test.YtakobibclhdakaaDoorPFnExactJarOkx1
import Derived.Test.YtakobibclhdakaaDoorPFnExactJarOkx2
import Derived.Test.YtakobibclhdakaaDoorPFnExactJarOkx3
import Derived.Test.YtakobibclhdakaaDoorPFnExactJarOkx4
import Derived.Test.YtakobibclhdakaaDoorPFnExactJarOkx5
import Derived.Test.YtakobibclhdakaaDoorPFnExactJarOkx6
import Derived.Test.YtakobibclhdakaaDoorPFnExactJarOkx7
import Derived.Test.YtakobibclhdakaaDoorPFnExactJarOkx8
import Derived.Test.YtakobibclhdakaaDoorPFnExactJarOkx9
import Derived.Test.YtakobibclhdakaaDoorPFnExactJarOkx10
import Derived.Test.YtakobibclhdakaaDoorPFnExactJarOkx11
import Derived.Test.YtakobibclhdakaaDoorPFnExactJarOkx12
import Derived.Test.YtakobibclhdakaaDoorPFnExactJarOkx13
import Derived.Test.YtakobibclhdakaaDoorPFnExactJarOkx14
import Derived.Test.YtakobibclhdakaaDoorPFnExactJarOkx15
namespace Go.Proofs.YtakobibclhdakaaDoor.PFnExactJarOk
open Go.RowKit Go.Proofs.YtakobibclhdakaaDoorG Go.Proofs.YtakobibclhdakaaDoorZ Go.Proofs.YtakobibclhdakaaDoorW.PrintWords Go.Proofs.YtakobibclhdakaaDoorW.PrintLast Go.Proofs.YtakobibclhdakaaDoorW.PrintMore
attribute [local go_sem] str_leq str_gtr str_geq max2_int min2_int max_two min_two max_three min_three max_four min_four   -- for this text's walks alone
set_option linter.unusedVariables false
set_option linter.unusedSimpArgs false

end Go.Proofs.YtakobibclhdakaaDoor.PFnExactJarOk
