-- Printed by this session's pp.py over the kit's printer, out of the translation. Lean checks it.
import Derived.Test.YtpfhgaaphaalgaaDoorESq
import Derived.Test.YtpfhgaaphaalgaaDoorPp0
import Derived.Test.YtpfhgaaphaalgaaDoorPp1
import Derived.Test.YtpfhgaaphaalgaaDoorPp3
import Derived.Test.YtpfhgaaphaalgaaDoorEIds
namespace Go.Proofs.YtpfhgaaphaalgaaDoor.Pp
open Go.RowKit Go.Proofs.YtpfhgaaphaalgaaDoor.Ext Go.Proofs.YtpfhgaaphaalgaaDoorW.PrintWords Go.Proofs.YtpfhgaaphaalgaaDoorW.PrintLast Go.Proofs.YtpfhgaaphaalgaaDoorW.PrintMore
attribute [local go_sem] max2_int min2_int max_two min_two max_three min_three max_four min_four   -- for this text's walks alone
set_option linter.unusedVariables false
set_option linter.unusedSimpArgs false
mutual
def selvagelaw05_InternTells.j0 : Nat → List ByteArray → List ByteArray → Int → List Int → List Int → Bool → Option (Bool)
 | 0, _, _, _, _, _, _ => none
 | k + 1, x0, x1, x2, x7, x8, x41 => if x41 = true then (some false) else (if ([] : List ByteArray).length + x0.length < 8796093022208 then ((some (([] : List ByteArray) ++ x0 : List ByteArray)).bind fun y197 => (if y197.length + x1.length < 8796093022208 then (if ([] : List Int).length + x7.length < 17592186044416 then ((some (([] : List Int) ++ x7 : List Int)).bind fun y203 => (if y203.length + x8.length < 17592186044416 then (selvagelaw05_InternTells.l0 k x2 (y197 ++ x1) (y203 ++ x8) 0 0) else (none))) else (none)) else (none))) else (none))
def selvagelaw05_InternTells.l0 : Nat → Int → List ByteArray → List Int → Int → Int → Option (Bool)
 | 0, _, _, _, _, _ => none
 | k + 1, x2, x10, x11, x12, x13 => if x13 < (x10.length : Int) then (selvagelaw05_InternTells.j2 k x2 x10 x11 x12 x13 (decide (x13 < 60))) else (selvagelaw05_InternTells.j2 k x2 x10 x11 x12 x13 false)
def selvagelaw05_InternTells.j2 : Nat → Int → List ByteArray → List Int → Int → Int → Bool → Option (Bool)
 | 0, _, _, _, _, _, _ => none
 | k + 1, x2, x10, x11, x12, x13, x61 => if x61 = true then (if 0 ≤ x13 then (if x13 < (x11.length : Int) then (if (rd x11 x13) > x12 then (selvagelaw05_InternTells.j3 k x2 x10 x11 x12 x13 true) else (selvagelaw05_InternTells.j3 k x2 x10 x11 x12 x13 (decide ((rd x11 x13) < 0)))) else (none)) else (none)) else ((selvagelaw05_sure.f k).bind fun t209 => (some t209))
def selvagelaw05_InternTells.j3 : Nat → Int → List ByteArray → List Int → Int → Int → Bool → Option (Bool)
 | 0, _, _, _, _, _, _ => none
 | k + 1, x2, x10, x11, x12, x13, x76 => if x76 = true then (some false) else (if 0 ≤ x13 then (if x13 < (x11.length : Int) then (if (rd x11 x13) = x12 then (selvagelaw05_InternTells.j4 k x2 x10 x11 (wrap64 (x12 + 1)) x13) else (selvagelaw05_InternTells.j4 k x2 x10 x11 x12 x13)) else (none)) else (none))
def selvagelaw05_InternTells.j4 : Nat → Int → List ByteArray → List Int → Int → Int → Option (Bool)
 | 0, _, _, _, _, _ => none
 | k + 1, x2, x10, x11, x12, x13 => selvagelaw05_InternTells.l1 k x2 x10 x11 x12 x13 0
def selvagelaw05_InternTells.l1 : Nat → Int → List ByteArray → List Int → Int → Int → Int → Option (Bool)
 | 0, _, _, _, _, _, _ => none
 | k + 1, x2, x10, x11, x12, x13, x14 => if x14 < x13 then (if 0 ≤ x13 then (if x13 < (x10.length : Int) then (if 0 ≤ x14 then (if x14 < (x10.length : Int) then (if x2 = 0 then (if x13 < (x11.length : Int) then (if x14 < (x11.length : Int) then (if (((rd x11 x13) == (rd x11 x14)) != ((rdOf ByteArray.empty x10 x13).toList == (rdOf ByteArray.empty x10 x14).toList)) = true then (some false) else (selvagelaw05_InternTells.l1 k x2 x10 x11 x12 x13 (wrap64 (x14 + 1)))) else (none)) else (none)) else ((intern_Key.f k (rdOf ByteArray.empty x10 x13) x2).bind fun t218 => ((intern_Key.f k (rdOf ByteArray.empty x10 x14) x2).bind fun t220 => (if x13 < (x11.length : Int) then (if x14 < (x11.length : Int) then (if (((rd x11 x13) == (rd x11 x14)) != (t218.toList == t220.toList)) = true then (some false) else (selvagelaw05_InternTells.l1 k x2 x10 x11 x12 x13 (wrap64 (x14 + 1)))) else (none)) else (none))))) else (none)) else (none)) else (none)) else (none)) else (selvagelaw05_InternTells.l0 k x2 x10 x11 x12 (wrap64 (x13 + 1)))
end
def selvagelaw05_InternTells.f (k : Nat) (l0 : List ByteArray) (l1 : List ByteArray) (a2 : Int) : Option (Bool) := (intern_Ids.f k l0 l1 (Go.bits .and .i64 a2 15)).bind fun bt189 => (if bt189.2.2.isNone = true then (if (bt189.1.length : Int) = (l0.length : Int) then (selvagelaw05_InternTells.j0 k l0 l1 (Go.bits .and .i64 a2 15) bt189.1 bt189.2.1 ((bt189.2.1.length : Int) != (l1.length : Int))) else (selvagelaw05_InternTells.j0 k l0 l1 (Go.bits .and .i64 a2 15) bt189.1 bt189.2.1 true)) else (selvagelaw05_InternTells.j0 k l0 l1 (Go.bits .and .i64 a2 15) bt189.1 bt189.2.1 true))
end Go.Proofs.YtpfhgaaphaalgaaDoor.Pp
