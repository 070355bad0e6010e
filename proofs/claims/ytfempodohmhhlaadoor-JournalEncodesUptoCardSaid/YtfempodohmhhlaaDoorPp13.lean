-- Printed by this session's pp.py over the kit's printer, out of the translation. Lean checks it.
import Derived.Test.YtfempodohmhhlaaDoorPp0
import Derived.Test.YtfempodohmhhlaaDoorPp4
import Derived.Test.YtfempodohmhhlaaDoorPp5
import Derived.Test.YtfempodohmhhlaaDoorPp10
import Derived.Test.YtfempodohmhhlaaDoorPp12
namespace Go.Proofs.YtfempodohmhhlaaDoor.Pp
open Go.RowKit Go.Proofs.YtfempodohmhhlaaDoor.Ext Go.Proofs.YtfempodohmhhlaaDoorW.PrintWords Go.Proofs.YtfempodohmhhlaaDoorW.PrintLast Go.Proofs.YtfempodohmhhlaaDoorW.PrintMore
attribute [local go_sem] max2_int min2_int max_two min_two max_three min_three max_four min_four   -- for this text's walks alone
set_option linter.unusedVariables false
set_option linter.unusedSimpArgs false
mutual
def selvageref27_step.l0 : Nat → ByteArray → List ByteArray → Int → Option (Int × ByteArray × ByteArray × Bool)
  | 0, _, _, _ => none
  | k + 1, x0, x4, x5 => if x5 < (x4.length : Int) then (if 0 ≤ x5 then ((selvageref11_Behind.f x0 (rdOf ByteArray.empty x4 x5)).bind fun bt273 => (if bt273.2 = true then ((selvageref02_Unquote.f k bt273.1).bind fun bt276 => (if bt276.2.2 = 0 then (if (wrap64 (x5 + 1)) = 1 then (if bt276.2.1.toList = ([] : List UInt8) then (selvageref27_step.j1 k x0 bt276.2.1 bt276.2.2 false (wrap64 (x5 + 1)) bt276.1 (⟨#[]⟩ : ByteArray)) else (if 0 < (bt276.2.1.size : Int) then (selvageref27_step.j1 k x0 bt276.2.1 bt276.2.2 ((bt bt276.2.1 0) == 9) (wrap64 (x5 + 1)) bt276.1 (⟨#[]⟩ : ByteArray)) else (none))) else (selvageref27_step.j1 k x0 bt276.2.1 bt276.2.2 false (wrap64 (x5 + 1)) bt276.1 (⟨#[]⟩ : ByteArray))) else (selvageref27_step.j1 k x0 bt276.2.1 bt276.2.2 false (wrap64 (x5 + 1)) bt276.1 (⟨#[]⟩ : ByteArray)))) else (selvageref27_step.l0 k x0 x4 (wrap64 (x5 + 1))))) else (none)) else (some (0, (⟨#[]⟩ : ByteArray), (⟨#[]⟩ : ByteArray), false))
def selvageref27_step.j1 : Nat → ByteArray → ByteArray → Int → Bool → Int → ByteArray → ByteArray → Option (Int × ByteArray × ByteArray × Bool)
  | 0, _, _, _, _, _, _, _ => none
  | k + 1, x0, x6, x10, x55, x276000, x276001, x276002 => if x55 = true then (if 1 ≤ (x6.size : Int) then ((selvageref02_Unquote.f k (x6.extract 1 x6.size)).bind fun bt279 => (if bt279.2.2 = 0 then (if bt279.2.1.toList = ([10] : List UInt8) then ((selvageref27_Valid.f k x276000 x276001 bt279.1).bind fun t282 => (if t282 = 0 then ((selvageref27_line.f k x276000 x276001 bt279.1).bind fun t283 => (some (x276000, x276001, bt279.1, (t283.toList == x0.toList)))) else (some (x276000, x276001, bt279.1, false)))) else (some (x276000, x276001, bt279.1, false))) else (some (x276000, x276001, bt279.1, false)))) else (none)) else (if x10 = 0 then (if x6.toList = ([10] : List UInt8) then ((selvageref27_Valid.f k x276000 x276001 x276002).bind fun t284 => (if t284 = 0 then ((selvageref27_line.f k x276000 x276001 x276002).bind fun t285 => (some (x276000, x276001, x276002, (t285.toList == x0.toList)))) else (some (x276000, x276001, x276002, false)))) else (some (x276000, x276001, x276002, false))) else (some (x276000, x276001, x276002, false)))
end
def selvageref27_step.f (k : Nat) (a0 : ByteArray) : Option (Int × ByteArray × ByteArray × Bool) := selvageref27_step.l0 k a0 (([(⟨#[114, 101, 110, 97, 109, 101, 32]⟩ : ByteArray), (⟨#[114, 101, 109, 111, 118, 101, 32]⟩ : ByteArray), (⟨#[112, 114, 117, 110, 101, 32]⟩ : ByteArray)] : List ByteArray)) 0
end Go.Proofs.YtfempodohmhhlaaDoor.Pp
