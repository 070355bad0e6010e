-- Printed by this session's pp.py over the kit's printer, out of the translation. Lean checks it.
import Derived.Test.YtfempodohmhhlaaDoorESq
import Derived.Test.YtfempodohmhhlaaDoorPp0
import Derived.Test.YtfempodohmhhlaaDoorPp1
import Derived.Test.YtfempodohmhhlaaDoorPp2
import Derived.Test.YtfempodohmhhlaaDoorPp3
import Derived.Test.YtfempodohmhhlaaDoorPp4
import Derived.Test.YtfempodohmhhlaaDoorPp5
import Derived.Test.YtfempodohmhhlaaDoorPp6
import Derived.Test.YtfempodohmhhlaaDoorPp7
import Derived.Test.YtfempodohmhhlaaDoorPp8
import Derived.Test.YtfempodohmhhlaaDoorPp9
import Derived.Test.YtfempodohmhhlaaDoorPp10
import Derived.Test.YtfempodohmhhlaaDoorPp11
import Derived.Test.YtfempodohmhhlaaDoorPp12
import Derived.Test.YtfempodohmhhlaaDoorPp13
import Derived.Test.YtfempodohmhhlaaDoorPp14
import Derived.Test.YtfempodohmhhlaaDoorPp15
namespace Go.Proofs.YtfempodohmhhlaaDoor.Pp
open Go.RowKit Go.Proofs.YtfempodohmhhlaaDoor.Ext Go.Proofs.YtfempodohmhhlaaDoorW.PrintWords Go.Proofs.YtfempodohmhhlaaDoorW.PrintLast Go.Proofs.YtfempodohmhhlaaDoorW.PrintMore
attribute [local go_sem] max2_int min2_int max_two min_two max_three min_three max_four min_four   -- for this text's walks alone
set_option linter.unusedVariables false
set_option linter.unusedSimpArgs false
end Go.Proofs.YtfempodohmhhlaaDoor.Pp
