-- Printed by this session's pp.py over the kit's printer, out of the translation. Lean checks it.
import Derived.Test.YtmfanpibpmajnaaDoorESq
import Derived.Test.YtmfanpibpmajnaaDoorPp0
import Derived.Test.YtmfanpibpmajnaaDoorPp10
import Derived.Test.YtmfanpibpmajnaaDoorPp11
namespace Go.Proofs.YtmfanpibpmajnaaDoor.Pp
open Go.RowKit Go.Proofs.YtmfanpibpmajnaaDoor.Ext Go.Proofs.YtmfanpibpmajnaaDoorW.PrintWords Go.Proofs.YtmfanpibpmajnaaDoorW.PrintLast Go.Proofs.YtmfanpibpmajnaaDoorW.PrintMore
attribute [local go_sem] max2_int min2_int max_two min_two max_three min_three max_four min_four   -- for this text's walks alone
set_option linter.unusedVariables false
set_option linter.unusedSimpArgs false
end Go.Proofs.YtmfanpibpmajnaaDoor.Pp
