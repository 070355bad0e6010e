-- Printed by this session's pp.py over the kit's printer, out of the translation. Lean checks it.
import Derived.Test.YtljdeadakamhpaaDoorProg
import Derived.Below
import Derived.Deep.Draws
import Derived.Deep.AppendLies
import Derived.Maps.AppendAt
import Derived.OwnWalk
import Derived.Laws.BytesArg
import Derived.Laws.MakeOwn
import Derived.Laws.OwnMore
import Derived.Deep.OwnRows
import Derived.Tactics
import Derived.Lib.ConvBytes
import Derived.Laws.Slices
import Derived.WalkKit
import Derived.KernelRfl
import Derived.RowKit3
import Derived.Deep.LoopGhost
import Derived.Deep.QuietTactic
import Derived.BigQuiet
import Derived.WideLaws
import Derived.Deep.DeepCutAuto
import Derived.Deep.CutBlock
import Derived.Deep.RegionHeld3
import Derived.Laws.Rows
import Derived.Lib.AppendStr
import Derived.ArgAppend
import Derived.Laws.IdiomCopy
import Derived.OrdersHeld
import Derived.Laws.BitsLemmas
import Derived.RowKit
import Derived.Test.YtljdeadakamhpaaDoorENum
import Derived.Test.YtljdeadakamhpaaDoorEIndexAny
import Derived.Test.YtljdeadakamhpaaDoorEQuote
import Derived.Test.YtljdeadakamhpaaDoorWWords
import Derived.Test.YtljdeadakamhpaaDoorWLast
import Derived.Test.YtljdeadakamhpaaDoorWTab
import Derived.Test.YtljdeadakamhpaaDoorWFour
import Derived.Test.YtljdeadakamhpaaDoorWQPut
import Derived.Test.YtljdeadakamhpaaDoorWApart
import Derived.Test.YtljdeadakamhpaaDoorWArr
import Derived.Test.YtljdeadakamhpaaDoorWZeros
import Derived.Test.YtljdeadakamhpaaDoorWFoot
import Derived.Test.YtljdeadakamhpaaDoorWKept
import Derived.Test.YtljdeadakamhpaaDoorWShare
import Derived.Test.YtljdeadakamhpaaDoorWN
import Derived.Test.YtljdeadakamhpaaDoorWFootNe
import Derived.Test.YtljdeadakamhpaaDoorWAt
import Derived.Test.YtljdeadakamhpaaDoorWEqStruct
import Derived.Test.YtljdeadakamhpaaDoorWRepsOne
import Derived.Test.YtljdeadakamhpaaDoorWInv
import Derived.Test.YtljdeadakamhpaaDoorWInvWords
import Derived.Test.YtljdeadakamhpaaDoorWGuard
import Derived.Test.YtljdeadakamhpaaDoorWNEv
import Derived.Test.YtljdeadakamhpaaDoorWMore
namespace Go.Proofs.YtljdeadakamhpaaDoor.Pp
open Go.RowKit Go.Proofs.YtljdeadakamhpaaDoor.Ext Go.Proofs.YtljdeadakamhpaaDoor.P1 Go.Proofs.YtljdeadakamhpaaDoorW.PrintWords Go.Proofs.YtljdeadakamhpaaDoorW.PrintLast Go.Proofs.YtljdeadakamhpaaDoorW.PrintMore
attribute [local go_sem] max2_int min2_int max_two min_two max_three min_three max_four min_four   -- for this text's walks alone
set_option linter.unusedVariables false
set_option linter.unusedSimpArgs false




theorem info5 : (Tryd.prog.info? 5).map (fun i => (i.zero, i.size, i.bytes)) = some (some (.int .u8 0), 1, 1) := by kernel_rfl
-- the values' own types

end Go.Proofs.YtljdeadakamhpaaDoor.Pp
