-- Printed by this session's pp.py over the kit's printer, out of the translation. Lean checks it.
import Derived.Test.YtfempodohmhhlaaDoorPp0
import Derived.Test.YtfempodohmhhlaaDoorPp8
import Derived.Test.YtfempodohmhhlaaDoorPp9
import Derived.Test.YtfempodohmhhlaaDoorEEncode
namespace Go.Proofs.YtfempodohmhhlaaDoor.Pp
open Go.RowKit Go.Proofs.YtfempodohmhhlaaDoor.Ext Go.Proofs.YtfempodohmhhlaaDoorW.PrintWords Go.Proofs.YtfempodohmhhlaaDoorW.PrintLast Go.Proofs.YtfempodohmhhlaaDoorW.PrintMore
attribute [local go_sem] max2_int min2_int max_two min_two max_three min_three max_four min_four   -- for this text's walks alone
set_option linter.unusedVariables false
set_option linter.unusedSimpArgs false
def selvagelaw27_JournalBack.j0 : Nat → ByteArray → Int → ByteArray → Bool → Option (Bool)
  | 0, _, _, _, _ => none
  | k + 1, x1, x2, x7, x41 => if x41 = true then (some false) else (if (x7.size : Int) = 0 then (none) else (if 0 ≤ (Int.tmod (wrap64 ((Int.tmod x2 (x7.size : Int)) + (x7.size : Int))) (x7.size : Int)) then (if (Int.tmod (wrap64 ((Int.tmod x2 (x7.size : Int)) + (x7.size : Int))) (x7.size : Int)) ≤ (x7.size : Int) then ((journal_Decode.f k (x7.extract 0 ((Int.tmod (wrap64 ((Int.tmod x2 (x7.size : Int)) + (x7.size : Int))) (x7.size : Int)) : Int).toNat)).bind fun bt342 => (if bt342.2.isNone = true then (some false) else ((journal_Decode.f k x1).bind fun bt347 => (if bt347.2.isNone = true then ((journal_Encode.f k bt347.1).bind fun bt352 => (if bt352.2.isNone = true then (if bt352.1.toList = x1.toList then ((selvagelaw27_sure.f k).bind fun t355 => (some t355)) else (some false)) else (some false))) else (if (bt347.1.length : Int) = 0 then ((selvagelaw27_sure.f k).bind fun t356 => (some t356)) else (some false)))))) else (none)) else (none)))
def selvagelaw27_JournalBack.f (k : Nat) (l0 : List (S32)) (a1 : ByteArray) (a2 : Int) : Option (Bool) := (journal_Encode.f k l0).bind fun bt333 => (if bt333.2.isNone = true then ((journal_Decode.f k bt333.1).bind fun bt336 => (if bt336.2.isNone = true then ((selvagelaw27_same.f k l0 bt336.1).bind fun t341 => (if t341 = true then (selvagelaw27_JournalBack.j0 k a1 a2 bt333.1 ((bt333.1.size : Int) == 0)) else (selvagelaw27_JournalBack.j0 k a1 a2 bt333.1 true))) else (selvagelaw27_JournalBack.j0 k a1 a2 bt333.1 true))) else ((journal_Decode.f k a1).bind fun bt357 => (if bt357.2.isNone = true then ((journal_Encode.f k bt357.1).bind fun bt362 => (if bt362.2.isNone = true then (if bt362.1.toList = a1.toList then ((selvagelaw27_sure.f k).bind fun t365 => (some t365)) else (some false)) else (some false))) else (if (bt357.1.length : Int) = 0 then ((selvagelaw27_sure.f k).bind fun t366 => (some t366)) else (some false)))))
end Go.Proofs.YtfempodohmhhlaaDoor.Pp
