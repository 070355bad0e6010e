import Derived.Test.YtecjoofjiockkaaGreatDoorESt
import Derived.Test.YtecjoofjiockkaaGreatDoorPp0
namespace Go.Proofs.YtecjoofjiockkaaGreatDoor.Pp
open Go.RowKit Go.Proofs.YtecjoofjiockkaaGreatDoor.Ext Go.Proofs.YtecjoofjiockkaaGreatDoorW.PrintWords Go.Proofs.YtecjoofjiockkaaGreatDoorW.PrintLast Go.Proofs.YtecjoofjiockkaaGreatDoorW.PrintMore
attribute [local go_sem] max2_int min2_int max_two min_two max_three min_three max_four min_four   -- for this text's walks alone
set_option linter.unusedVariables false
set_option linter.unusedSimpArgs false
mutual
def selvageref01_Valid.l0 : Nat → List ByteArray → Int → Option (Bool)
 | 0, _, _ => none
 | k + 1, x0, x3 => if x3 < (x0.length : Int) then (if 0 ≤ x3 then (selvageref01_Valid.l1 k x0 x3 ((rdOf ByteArray.empty x0 x3).size : Int) 0) else (none)) else (some true)
def selvageref01_Valid.l1 : Nat → List ByteArray → Int → Int → Int → Option (Bool)
 | 0, _, _, _, _ => none
 | k + 1, x0, x3, x4, x5 => if x5 < (wrap64 (x4 - 1)) then (if 0 ≤ x3 then (if x3 < (x0.length : Int) then (if 0 ≤ x5 then (if x5 < ((rdOf ByteArray.empty x0 x3).size : Int) then (if (bt (rdOf ByteArray.empty x0 x3) x5) = 10 then (some false) else (selvageref01_Valid.l1 k x0 x3 x4 (wrap64 (x5 + 1)))) else (none)) else (none)) else (none)) else (none)) else (if x4 = 0 then (some false) else (if x3 < (wrap64 ((x0.length : Int) - 1)) then (if 0 ≤ x3 then (if x3 < (x0.length : Int) then (if 0 ≤ (wrap64 (x4 - 1)) then (if (wrap64 (x4 - 1)) < ((rdOf ByteArray.empty x0 x3).size : Int) then (if (bt (rdOf ByteArray.empty x0 x3) (wrap64 (x4 - 1))) = 10 then (selvageref01_Valid.l0 k x0 (wrap64 (x3 + 1))) else (some false)) else (none)) else (none)) else (none)) else (none)) else (selvageref01_Valid.l0 k x0 (wrap64 (x3 + 1)))))
end
mutual
def selvageref06_Valid.j0 : Nat → List (S49) → Int → Int → Bool → Option (Int)
 | 0, _, _, _, _ => none
 | k + 1, x0, x1, x2, x24 => if x24 = true then (some 1) else (selvageref06_Valid.l0 k x0 x1 x2 0 0 0)
def selvageref06_Valid.l0 : Nat → List (S49) → Int → Int → Int → Int → Int → Option (Int)
 | 0, _, _, _, _, _, _ => none
 | k + 1, x0, x1, x2, x7, x8, x9 => if x9 < (x0.length : Int) then (if 0 ≤ x9 then (if ((rd_T49 x0 x9).f0) < x7 then (some 60) else (if ((rd_T49 x0 x9).f2) < x8 then (some 60) else (if ((rd_T49 x0 x9).f0) > x1 then (some 60) else (if ((rd_T49 x0 x9).f2) > x2 then (some 60) else (if (wrap64 (((rd_T49 x0 x9).f0) - x7)) = (wrap64 (((rd_T49 x0 x9).f2) - x8)) then (if ((rd_T49 x0 x9).f1) < 0 then (some 60) else (if ((rd_T49 x0 x9).f3) < 0 then (some 60) else (if ((rd_T49 x0 x9).f1) > (wrap64 (x1 - ((rd_T49 x0 x9).f0))) then (some 60) else (if ((rd_T49 x0 x9).f3) > (wrap64 (x2 - ((rd_T49 x0 x9).f2))) then (some 60) else (if ((rd_T49 x0 x9).f1) = 0 then (if ((rd_T49 x0 x9).f3) = 0 then (some 60) else (selvageref06_Valid.l0 k x0 x1 x2 (wrap64 (((rd_T49 x0 x9).f0) + ((rd_T49 x0 x9).f1))) (wrap64 (((rd_T49 x0 x9).f2) + ((rd_T49 x0 x9).f3))) (wrap64 (x9 + 1)))) else (selvageref06_Valid.l0 k x0 x1 x2 (wrap64 (((rd_T49 x0 x9).f0) + ((rd_T49 x0 x9).f1))) (wrap64 (((rd_T49 x0 x9).f2) + ((rd_T49 x0 x9).f3))) (wrap64 (x9 + 1)))))))) else (some 60)))))) else (none)) else (if (wrap64 (x1 - x7)) = (wrap64 (x2 - x8)) then (some 0) else (some 60))
end
end Go.Proofs.YtecjoofjiockkaaGreatDoor.Pp
