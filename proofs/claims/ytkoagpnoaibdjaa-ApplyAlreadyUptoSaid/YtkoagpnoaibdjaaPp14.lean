import Derived.Test.YtkoagpnoaibdjaaESt
import Derived.Test.YtkoagpnoaibdjaaPp0
import Derived.Test.YtkoagpnoaibdjaaPp4
import Derived.Test.YtkoagpnoaibdjaaPp5
import Derived.Test.YtkoagpnoaibdjaaPp10
import Derived.Test.YtkoagpnoaibdjaaPp12
import Derived.Test.YtkoagpnoaibdjaaPp13
import Derived.Test.YtkoagpnoaibdjaaEApply
import Derived.Test.YtkoagpnoaibdjaaESure
namespace Go.Proofs.Ytkoagpnoaibdjaa.Pp
open Go.RowKit Go.Proofs.Ytkoagpnoaibdjaa.Ext Go.Proofs.YtkoagpnoaibdjaaW.PrintWords Go.Proofs.YtkoagpnoaibdjaaW.PrintLast Go.Proofs.YtkoagpnoaibdjaaW.PrintMore
attribute [local go_sem] max2_int min2_int max_two min_two max_three min_three max_four min_four   -- for this text's walks alone
set_option linter.unusedVariables false
set_option linter.unusedSimpArgs false
mutual
def selvagelaw17_ApplyBuilt.j0 : Nat → List (S41) → Bool → List (S57) → List ByteArray → List ByteArray → Int → Int → Option (Bool)
 | 0, _, _, _, _, _, _, _ => none
 | k + 1, x3, x41, x386000, x386001, x386002, x386003, x386004 => if x41 = true then ((selvagelaw17_sure.f k).bind fun t391 => (some t391)) else ((apply_Apply.f k x386001 x3 x386004).bind fun bt392 => (if bt392.2.2.2.isNone = true then ((selvagelaw17_same.f k bt392.1 x386002).bind fun t403 => (if t403 = true then (if (bt392.2.2.1.length : Int) = 0 then ((selvagelaw17_plain.f k bt392.2.1 (x3.length : Int)).bind fun t404 => (selvagelaw17_ApplyBuilt.j1 k x3 (!t404) x386000 x386001 x386002 x386003 x386004)) else (selvagelaw17_ApplyBuilt.j1 k x3 true x386000 x386001 x386002 x386003 x386004)) else (selvagelaw17_ApplyBuilt.j1 k x3 true x386000 x386001 x386002 x386003 x386004))) else (selvagelaw17_ApplyBuilt.j1 k x3 true x386000 x386001 x386002 x386003 x386004)))
def selvagelaw17_ApplyBuilt.j1 : Nat → List (S41) → Bool → List (S57) → List ByteArray → List ByteArray → Int → Int → Option (Bool)
 | 0, _, _, _, _, _, _, _ => none
 | k + 1, x3, x74, x386000, x386001, x386002, x386003, x386004 => if x74 = true then (none) else (selvagelaw17_ApplyBuilt.l0 k x3 ([] : List (S41)) 0 x386000 x386001 x386002 x386003 x386004)
def selvagelaw17_ApplyBuilt.l0 : Nat → List (S41) → List (S41) → Int → List (S57) → List ByteArray → List ByteArray → Int → Int → Option (Bool)
 | 0, _, _, _, _, _, _, _, _ => none
 | k + 1, x3, x9, x10, x386000, x386001, x386002, x386003, x386004 => if x10 < (x3.length : Int) then (if 0 ≤ x10 then ((selvageref10_Reverse.f k ((rd_T41 x3 x10).f0) ((rd_T41 x3 x10).f1) ((rd_T41 x3 x10).f2) ((rd_T41 x3 x10).f3) ((rd_T41 x3 x10).f4) ((rd_T41 x3 x10).f5)).bind fun bt406 => (if x9.length < 1954687338268 then (selvagelaw17_ApplyBuilt.l0 k x3 (x9 ++ [(⟨bt406.1, bt406.2.1, bt406.2.2.1, bt406.2.2.2.1, bt406.2.2.2.2.1, bt406.2.2.2.2.2⟩ : S41)]) (wrap64 (x10 + 1)) x386000 x386001 x386002 x386003 x386004) else (none))) else (none)) else ((apply_Apply.f k x386002 x9 x386004).bind fun bt417 => (if bt417.2.2.2.isNone = true then ((selvagelaw17_same.f k bt417.1 x386001).bind fun t428 => (if t428 = true then (if (bt417.2.2.1.length : Int) = 0 then ((selvagelaw17_plain.f k bt417.2.1 (x3.length : Int)).bind fun t429 => (if t429 = true then ((selvagelaw17_sure.f k).bind fun t430 => (some t430)) else (none))) else (none)) else (none))) else (none)))
end
def selvagelaw17_ApplyBuilt.f (k : Nat) (l0_0 : List (S57)) (l0_1 : List ByteArray) (l0_2 : List ByteArray) (a0_3 : Int) (a0_4 : Int) : Option (Bool) := (selvageref10_Build.f k l0_0 l0_1 l0_2 a0_3).bind fun bt386 => (if bt386.2 = 0 then (if a0_4 < 0 then (selvagelaw17_ApplyBuilt.j0 k bt386.1 true l0_0 l0_1 l0_2 a0_3 a0_4) else (if a0_4 > 3 then (selvagelaw17_ApplyBuilt.j0 k bt386.1 true l0_0 l0_1 l0_2 a0_3 a0_4) else ((selvagelaw17_common.f k l0_0 l0_1 l0_2 a0_3 a0_4).bind fun t390 => (selvagelaw17_ApplyBuilt.j0 k bt386.1 (!t390) l0_0 l0_1 l0_2 a0_3 a0_4)))) else (selvagelaw17_ApplyBuilt.j0 k bt386.1 true l0_0 l0_1 l0_2 a0_3 a0_4))
end Go.Proofs.Ytkoagpnoaibdjaa.Pp
