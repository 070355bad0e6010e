-- Printed by this session's pp.py over the kit's printer, out of the translation. Lean checks it.
import Derived.Test.YtpfhgaaphaalgaaDoorESq
import Derived.Test.YtpfhgaaphaalgaaDoorProg
import Derived.Below
import Derived.Deep.Draws
import Derived.Deep.AppendLies
import Derived.Maps.AppendAt
import Derived.OwnWalk
import Derived.Laws.BytesArg
import Derived.Laws.MakeOwn
import Derived.Laws.OwnMore
import Derived.Deep.OwnRows
import Derived.Tactics
import Derived.Lib.ConvBytes
import Derived.Laws.Slices
import Derived.WalkKit
import Derived.KernelRfl
import Derived.RowKit3
import Derived.Deep.LoopGhost
import Derived.Deep.QuietTactic
import Derived.BigQuiet
import Derived.WideLaws
import Derived.Deep.DeepCutAuto
import Derived.Deep.CutBlock
import Derived.Deep.RegionHeld3
import Derived.Laws.Rows
import Derived.Lib.AppendStr
import Derived.ArgAppend
import Derived.Laws.IdiomCopy
import Derived.OrdersHeld
import Derived.Laws.BitsLemmas
import Derived.RowKit
import Derived.Test.YtpfhgaaphaalgaaDoorENum
import Derived.Test.YtpfhgaaphaalgaaDoorETrim
import Derived.Test.YtpfhgaaphaalgaaDoorEByte
import Derived.Test.YtpfhgaaphaalgaaDoorWWords
import Derived.Test.YtpfhgaaphaalgaaDoorWLast
import Derived.Test.YtpfhgaaphaalgaaDoorWApart
import Derived.Test.YtpfhgaaphaalgaaDoorWArr
import Derived.Test.YtpfhgaaphaalgaaDoorWFoot
import Derived.Test.YtpfhgaaphaalgaaDoorWKept
import Derived.Test.YtpfhgaaphaalgaaDoorWShare
import Derived.Test.YtpfhgaaphaalgaaDoorWN
import Derived.Laws.StructEq
import Derived.Test.YtpfhgaaphaalgaaDoorWRepsOne
import Derived.Test.YtpfhgaaphaalgaaDoorWInv
import Derived.Test.YtpfhgaaphaalgaaDoorWGuard
import Derived.Test.YtpfhgaaphaalgaaDoorWMore
namespace Go.Proofs.YtpfhgaaphaalgaaDoor.Pp
open Go.RowKit Go.Proofs.YtpfhgaaphaalgaaDoor.Ext Go.Proofs.YtpfhgaaphaalgaaDoorW.PrintWords Go.Proofs.YtpfhgaaphaalgaaDoorW.PrintLast Go.Proofs.YtpfhgaaphaalgaaDoorW.PrintMore
attribute [local go_sem] max2_int min2_int max_two min_two max_three min_three max_four min_four   -- for this text's walks alone
set_option linter.unusedVariables false
set_option linter.unusedSimpArgs false
theorem info3 : (Tryd.prog.info? 3).map (fun i => (i.zero, i.size, i.bytes)) = some (some (.int .i64 0), 1, 8) := by kernel_rfl
theorem info5 : (Tryd.prog.info? 5).map (fun i => (i.zero, i.size, i.bytes)) = some (some (.int .u8 0), 1, 1) := by kernel_rfl
theorem info9 : (Tryd.prog.info? 9).map (fun i => (i.zero, i.size, i.bytes)) = some (some (.string ⟨#[]⟩), 1, 16) := by kernel_rfl
end Go.Proofs.YtpfhgaaphaalgaaDoor.Pp
