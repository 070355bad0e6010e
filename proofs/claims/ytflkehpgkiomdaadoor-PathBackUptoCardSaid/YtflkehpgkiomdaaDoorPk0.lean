-- Printed by this session's pp.py over the kit's printer, out of the translation. Lean checks it.
import Derived.Test.YtflkehpgkiomdaaDoorProg
import Derived.Below
import Derived.Deep.Draws
import Derived.Deep.AppendLies
import Derived.Maps.AppendAt
import Derived.OwnWalk
import Derived.Laws.BytesArg
import Derived.Laws.MakeOwn
import Derived.Laws.OwnMore
import Derived.Deep.OwnRows
import Derived.Tactics
import Derived.Lib.ConvBytes
import Derived.Laws.Slices
import Derived.WalkKit
import Derived.KernelRfl
import Derived.RowKit3
import Derived.Deep.LoopGhost
import Derived.Deep.QuietTactic
import Derived.BigQuiet
import Derived.WideLaws
import Derived.Deep.DeepCutAuto
import Derived.Deep.CutBlock
import Derived.Deep.RegionHeld3
import Derived.Laws.Rows
import Derived.Lib.AppendStr
import Derived.ArgAppend
import Derived.Laws.IdiomCopy
import Derived.OrdersHeld
import Derived.Laws.BitsLemmas
import Derived.RowKit
import Derived.Test.YtflkehpgkiomdaaDoorENum
import Derived.Test.YtflkehpgkiomdaaDoorEIndexAny
import Derived.Test.YtflkehpgkiomdaaDoorEStrs
import Derived.Test.YtflkehpgkiomdaaDoorEJoin
import Derived.Test.YtflkehpgkiomdaaDoorWWords
import Derived.Test.YtflkehpgkiomdaaDoorWLast
import Derived.Test.YtflkehpgkiomdaaDoorWApart
import Derived.Test.YtflkehpgkiomdaaDoorWFoot
import Derived.Test.YtflkehpgkiomdaaDoorWKept
import Derived.Test.YtflkehpgkiomdaaDoorWShare
import Derived.Test.YtflkehpgkiomdaaDoorWN
import Derived.Laws.StructEq
import Derived.Test.YtflkehpgkiomdaaDoorWRepsOne
import Derived.Test.YtflkehpgkiomdaaDoorWMore
namespace Go.Proofs.YtflkehpgkiomdaaDoor.Pk
open Go.RowKit Go.Proofs.YtflkehpgkiomdaaDoor.Ext Go.Proofs.YtflkehpgkiomdaaDoorW.PrintWords Go.Proofs.YtflkehpgkiomdaaDoorW.PrintLast Go.Proofs.YtflkehpgkiomdaaDoorW.PrintMore
attribute [local go_sem] max2_int min2_int max_two min_two max_three min_three max_four min_four   -- for this text's walks alone
set_option linter.unusedVariables false
set_option linter.unusedSimpArgs false
theorem info9 : (Tryd.prog.info? 9).map (fun i => (i.zero, i.size, i.bytes)) = some (some (.string ⟨#[]⟩), 1, 16) := by kernel_rfl
end Go.Proofs.YtflkehpgkiomdaaDoor.Pk
