-- Printed by this session's pp.py over the kit's printer, out of the translation. Lean checks it.
import Derived.Test.YtkoagpnoaibdjaaDoorESq
import Derived.Test.YtkoagpnoaibdjaaDoorPp0
namespace Go.Proofs.YtkoagpnoaibdjaaDoor.Pp
open Go.RowKit Go.Proofs.YtkoagpnoaibdjaaDoor.Ext Go.Proofs.YtkoagpnoaibdjaaDoorW.PrintWords Go.Proofs.YtkoagpnoaibdjaaDoorW.PrintLast Go.Proofs.YtkoagpnoaibdjaaDoorW.PrintMore
attribute [local go_sem] max2_int min2_int max_two min_two max_three min_three max_four min_four   -- for this text's walks alone
set_option linter.unusedVariables false
set_option linter.unusedSimpArgs false
theorem eqA61 (d : Nat) (w : World) (x0 y0 : Int) (x1 y1 : ByteArray) :
  (Op.equalIn (d + 2) 61 (.agg #[.int .i64 x0, .string x1]) (.agg #[.int .i64 y0, .string y1])).run Tryd.prog w = .ok (x0 == y0 && (x1.toList == y1.toList)) w := by
 refine eqA_of Tryd.underlying61 (by kernel_rfl) ?_
 refine eqf_cons (by rfl) (by go_simp; rfl) (by go_simp; rfl) (by go_simp) ?_
 exact eqf_last (by rfl) (by go_simp; rfl) (by go_simp; rfl) (by go_simp)
end Go.Proofs.YtkoagpnoaibdjaaDoor.Pp
