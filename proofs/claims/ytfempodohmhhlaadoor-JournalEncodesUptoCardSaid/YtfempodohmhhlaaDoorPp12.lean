-- Printed by this session's pp.py over the kit's printer, out of the translation. Lean checks it.
import Derived.Test.YtfempodohmhhlaaDoorPp0
import Derived.Test.YtfempodohmhhlaaDoorPp11
namespace Go.Proofs.YtfempodohmhhlaaDoor.Pp
open Go.RowKit Go.Proofs.YtfempodohmhhlaaDoor.Ext Go.Proofs.YtfempodohmhhlaaDoorW.PrintWords Go.Proofs.YtfempodohmhhlaaDoorW.PrintLast Go.Proofs.YtfempodohmhhlaaDoorW.PrintMore
attribute [local go_sem] max2_int min2_int max_two min_two max_three min_three max_four min_four   -- for this text's walks alone
set_option linter.unusedVariables false
set_option linter.unusedSimpArgs false
mutual
def selvageref02_Unquote.j0 : Nat → ByteArray → List Int → Bool → Option (ByteArray × ByteArray × Int)
  | 0, _, _, _ => none
  | k + 1, x0, x5, x16 => if x16 = true then (selvageref02_Unquote.l0 k x0 0) else (selvageref02_Unquote.l1 k x0 x5 1)
def selvageref02_Unquote.l0 : Nat → ByteArray → Int → Option (ByteArray × ByteArray × Int)
  | 0, _, _ => none
  | k + 1, x0, x6 => if x6 < (x0.size : Int) then (if 0 ≤ x6 then (if (bt x0 x6) = 9 then (if x6 ≤ (x0.size : Int) then (some (x0.extract 0 (x6 : Int).toNat, x0.extract (x6 : Int).toNat x0.size, 0)) else (none)) else (if (bt x0 x6) = 10 then (if x6 ≤ (x0.size : Int) then (some (x0.extract 0 (x6 : Int).toNat, x0.extract (x6 : Int).toNat x0.size, 0)) else (none)) else (selvageref02_Unquote.l0 k x0 (wrap64 (x6 + 1))))) else (none)) else (if 0 ≤ x6 then (if x6 ≤ (x0.size : Int) then (some (x0.extract 0 (x6 : Int).toNat, x0.extract (x6 : Int).toNat x0.size, 0)) else (none)) else (none))
def selvageref02_Unquote.l1 : Nat → ByteArray → List Int → Int → Option (ByteArray × ByteArray × Int)
  | 0, _, _, _ => none
  | k + 1, x0, x5, x7 => if x7 < (x0.size : Int) then (if 0 ≤ x7 then (if (bt x0 x7) = 34 then (selvageref02_Unquote.j3 k x0 x5 x7 false) else (selvageref02_Unquote.j3 k x0 x5 x7 ((bt x0 x7) != 10))) else (none)) else (selvageref02_Unquote.j3 k x0 x5 x7 false)
def selvageref02_Unquote.j3 : Nat → ByteArray → List Int → Int → Bool → Option (ByteArray × ByteArray × Int)
  | 0, _, _, _, _ => none
  | k + 1, x0, x5, x7, x56 => if x56 = true then (if 0 ≤ x7 then (if x7 < (x0.size : Int) then (if (bt x0 x7) = 92 then (if x7 ≤ (x0.size : Int) then ((selvageref02_read.f k (x0.extract (x7 : Int).toNat x0.size)).bind fun bt260 => (if bt260.2 = 0 then (some ((⟨#[]⟩ : ByteArray), (⟨#[]⟩ : ByteArray), 20)) else (if x5.length < 140737488355328 then (selvageref02_Unquote.l1 k x0 (x5 ++ [bt260.1]) (wrap64 (x7 + bt260.2))) else (none)))) else (none)) else (if x5.length < 140737488355328 then (selvageref02_Unquote.l1 k x0 (x5 ++ [bt x0 x7]) (wrap64 (x7 + 1))) else (none))) else (none)) else (none)) else (if x7 ≥ (x0.size : Int) then (some ((⟨#[]⟩ : ByteArray), (⟨#[]⟩ : ByteArray), 20)) else (if 0 ≤ x7 then (if x7 < (x0.size : Int) then (if (bt x0 x7) = 10 then (some ((⟨#[]⟩ : ByteArray), (⟨#[]⟩ : ByteArray), 20)) else (if 0 ≤ (wrap64 (x7 + 1)) then (if (wrap64 (x7 + 1)) ≤ (x0.size : Int) then (some (strOfNums x5, x0.extract ((wrap64 (x7 + 1)) : Int).toNat x0.size, 0)) else (none)) else (none))) else (none)) else (none)))
end
def selvageref02_Unquote.f (k : Nat) (a0 : ByteArray) : Option (ByteArray × ByteArray × Int) := if a0.toList = ([] : List UInt8) then (selvageref02_Unquote.j0 k a0 ([] : List Int) true) else (if 0 < (a0.size : Int) then (selvageref02_Unquote.j0 k a0 ([] : List Int) ((bt a0 0) != 34)) else (none))
end Go.Proofs.YtfempodohmhhlaaDoor.Pp
