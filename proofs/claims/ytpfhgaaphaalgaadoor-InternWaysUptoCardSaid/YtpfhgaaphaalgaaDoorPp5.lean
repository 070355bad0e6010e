-- Printed by this session's pp.py over the kit's printer, out of the translation. Lean checks it.
import Derived.Test.YtpfhgaaphaalgaaDoorESq
import Derived.Test.YtpfhgaaphaalgaaDoorPp0
import Derived.Test.YtpfhgaaphaalgaaDoorPp3
import Derived.Test.YtpfhgaaphaalgaaDoorEIds
import Derived.Test.YtpfhgaaphaalgaaDoorERefIds
namespace Go.Proofs.YtpfhgaaphaalgaaDoor.Pp
open Go.RowKit Go.Proofs.YtpfhgaaphaalgaaDoor.Ext Go.Proofs.YtpfhgaaphaalgaaDoorW.PrintWords Go.Proofs.YtpfhgaaphaalgaaDoorW.PrintLast Go.Proofs.YtpfhgaaphaalgaaDoorW.PrintMore
attribute [local go_sem] max2_int min2_int max_two min_two max_three min_three max_four min_four   -- for this text's walks alone
set_option linter.unusedVariables false
set_option linter.unusedSimpArgs false
def selvagelaw05_InternOwn.l0 : Nat → List ByteArray → List ByteArray → Int → List Int → List Int → Int → Option (Bool)
 | 0, _, _, _, _, _, _ => none
 | k + 1, x0, x1, x2, x7, x8, x10 => if x10 < (x7.length : Int) then (if 0 ≤ x10 then (selvagelaw05_InternOwn.l0 k x0 x1 x2 (x7.set (x10 : Int).toNat (-7)) x8 (wrap64 (x10 + 1))) else (none)) else ((some (([(-8), (-8), (-8)] : List Int) : List Int)).bind fun y231 => (if x7.length + y231.length < 17592186044416 then ((some (x7 ++ y231 : List Int)).bind fun y234 => ((selvageref05_Ids.f k x0 x1 x2).bind fun bt237 => ((intern_Ids.f k x0 x1 x2).bind fun bt244 => ((selvagelaw05_same.f k x8 bt237.2.1).bind fun t251 => (if t251 = true then ((selvagelaw05_same.f k bt244.1 bt237.1).bind fun t252 => (if t252 = true then ((selvagelaw05_same.f k bt244.2.1 bt237.2.1).bind fun t253 => (if t253 = true then (if 0 ≤ (wrap64 ((y234.length : Int) - 1)) then (if (wrap64 ((y234.length : Int) - 1)) < (y234.length : Int) then (if (rd y234 (wrap64 ((y234.length : Int) - 1))) = (-8) then ((selvagelaw05_sure.f k).bind fun t255 => (some t255)) else (some false)) else (none)) else (none)) else (some false))) else (some false))) else (some false)))))) else (none)))
def selvagelaw05_InternOwn.f (k : Nat) (l0 : List ByteArray) (l1 : List ByteArray) (a2 : Int) : Option (Bool) := (intern_Ids.f k l0 l1 a2).bind fun bt223 => (selvagelaw05_InternOwn.l0 k l0 l1 a2 bt223.1 bt223.2.1 0)
mutual
def selvagelaw05_InternIds.l0 : Nat → List ByteArray → List ByteArray → List ByteArray → List ByteArray → List Int → List Int → Option Int → List Int → List Int → Int → Int → Option (Bool)
 | 0, _, _, _, _, _, _, _, _, _, _, _ => none
 | k + 1, x0, x1, x7, x8, x9, x10, x11, x12, x13, x14, x15 => if x15 < (x0.length : Int) then (if 0 ≤ x15 then (if x15 < (x7.length : Int) then (if (rdOf ByteArray.empty x7 x15).toList = (rdOf ByteArray.empty x0 x15).toList then (selvagelaw05_InternIds.l0 k x0 x1 x7 x8 x9 x10 x11 x12 x13 x14 (wrap64 (x15 + 1))) else (some false)) else (none)) else (none)) else (selvagelaw05_InternIds.l1 k x1 x8 x9 x10 x11 x12 x13 x14 0)
def selvagelaw05_InternIds.l1 : Nat → List ByteArray → List ByteArray → List Int → List Int → Option Int → List Int → List Int → Int → Int → Option (Bool)
 | 0, _, _, _, _, _, _, _, _, _ => none
 | k + 1, x1, x8, x9, x10, x11, x12, x13, x14, x16 => if x16 < (x1.length : Int) then (if 0 ≤ x16 then (if x16 < (x8.length : Int) then (if (rdOf ByteArray.empty x8 x16).toList = (rdOf ByteArray.empty x1 x16).toList then (selvagelaw05_InternIds.l1 k x1 x8 x9 x10 x11 x12 x13 x14 (wrap64 (x16 + 1))) else (some false)) else (none)) else (none)) else ((selvagelaw05_same.f k x9 x12).bind fun t280 => (if t280 = true then ((selvagelaw05_same.f k x10 x13).bind fun t281 => (if t281 = true then ((selvagelaw05_num.f x11).bind fun t282 => (if t282 = x14 then ((selvagelaw05_sure.f k).bind fun t283 => (some t283)) else (some false))) else (some false))) else (some false)))
end
def selvagelaw05_InternIds.f (k : Nat) (l0 : List ByteArray) (l1 : List ByteArray) (a2 : Int) : Option (Bool) := if ([] : List ByteArray).length + l0.length < 8796093022208 then ((some (([] : List ByteArray) ++ l0 : List ByteArray)).bind fun y256 => (if ([] : List ByteArray).length + l1.length < 8796093022208 then ((some (([] : List ByteArray) ++ l1 : List ByteArray)).bind fun y259 => ((intern_Ids.f k y256 y259 a2).bind fun bt262 => ((selvageref05_Ids.f k l0 l1 a2).bind fun bt269 => (selvagelaw05_InternIds.l0 k l0 l1 y256 y259 bt262.1 bt262.2.1 bt262.2.2 bt269.1 bt269.2.1 bt269.2.2 0)))) else (none))) else (none)
end Go.Proofs.YtpfhgaaphaalgaaDoor.Pp
