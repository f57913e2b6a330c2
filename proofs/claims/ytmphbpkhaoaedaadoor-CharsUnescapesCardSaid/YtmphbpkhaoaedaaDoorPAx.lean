-- Written by a program of this session's (wip/mkprint.py) out of the translation; the texts of functions that the program does not take are mine.
import Derived.Test.YtmphbpkhaoaedaaDoorPAx0
import Derived.Test.YtmphbpkhaoaedaaDoorPAx1
import Derived.Test.YtmphbpkhaoaedaaDoorPAx2
import Derived.Test.YtmphbpkhaoaedaaDoorPAx3
import Derived.Test.YtmphbpkhaoaedaaDoorPAx4
import Derived.Test.YtmphbpkhaoaedaaDoorPAx5
import Derived.Test.YtmphbpkhaoaedaaDoorPAx6
import Derived.Test.YtmphbpkhaoaedaaDoorPAx7
import Derived.Test.YtmphbpkhaoaedaaDoorPAx8
namespace Go.Proofs.YtmphbpkhaoaedaaDoor.PA
open Go.RowKit Go.Proofs.YtmphbpkhaoaedaaDoorW.PrintWords Go.Proofs.YtmphbpkhaoaedaaDoorW.PrintLast Go.Proofs.YtmphbpkhaoaedaaDoorW.PrintMore
attribute [local go_sem] max2_int min2_int max_two min_two max_three min_three max_four min_four   -- for this text's walks alone
set_option linter.unusedVariables false
set_option linter.unusedSimpArgs false

end Go.Proofs.YtmphbpkhaoaedaaDoor.PA
