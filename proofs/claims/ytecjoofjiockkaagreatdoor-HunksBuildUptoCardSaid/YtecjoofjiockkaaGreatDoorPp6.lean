import Derived.Test.YtecjoofjiockkaaGreatDoorESt
import Derived.Test.YtecjoofjiockkaaGreatDoorPp0
import Derived.Test.YtecjoofjiockkaaGreatDoorPp4
import Derived.Test.YtecjoofjiockkaaGreatDoorPp5
namespace Go.Proofs.YtecjoofjiockkaaGreatDoor.Pp
open Go.RowKit Go.Proofs.YtecjoofjiockkaaGreatDoor.Ext Go.Proofs.YtecjoofjiockkaaGreatDoorW.PrintWords Go.Proofs.YtecjoofjiockkaaGreatDoorW.PrintLast Go.Proofs.YtecjoofjiockkaaGreatDoorW.PrintMore
attribute [local go_sem] max2_int min2_int max_two min_two max_three min_three max_four min_four   -- for this text's walks alone
set_option linter.unusedVariables false
set_option linter.unusedSimpArgs false
def selvageref10_start.f (a0 : Int) (a1 : Int) : Option (Bool) := if a1 = 0 then (if a0 ≥ 0 then (some (decide (a0 ≤ (wrap64 (2147483647 - a1))))) else (some false)) else (if a0 ≥ 1 then (some (decide (a0 ≤ (wrap64 (2147483647 - a1))))) else (some false))
mutual
def selvageref10_Valid.j0 : Nat → Bool → Int → Int → Int → Int → ByteArray → List (S53) → Option (Int)
 | 0, _, _, _, _, _, _, _ => none
 | k + 1, x5, x145000, x145001, x145002, x145003, x145004, x145005 => selvageref10_Valid.l0 k x5 0 x145000 x145001 x145002 x145003 x145004 x145005
def selvageref10_Valid.l0 : Nat → Bool → Int → Int → Int → Int → Int → ByteArray → List (S53) → Option (Int)
 | 0, _, _, _, _, _, _, _, _ => none
 | k + 1, x5, x6, x145000, x145001, x145002, x145003, x145004, x145005 => if x6 < (x145004.size : Int) then (if x5 = true then (if 0 ≤ x6 then (selvageref10_Valid.l0 k ((bt x145004 x6) != 10) (wrap64 (x6 + 1)) x145000 x145001 x145002 x145003 x145004 x145005) else (none)) else (selvageref10_Valid.l0 k false (wrap64 (x6 + 1)) x145000 x145001 x145002 x145003 x145004 x145005)) else (if x5 = true then (some 0) else (some 100))
end
def selvageref10_Valid.f (k : Nat) (a0_0 : Int) (a0_1 : Int) (a0_2 : Int) (a0_3 : Int) (a0_4 : ByteArray) (l0_5 : List (S53)) : Option (Int) := (selvageref10_Counts.f k l0_5).bind fun bt145 => ((selvageref10_rows.f k l0_5).bind fun t147 => (if t147 = true then (if a0_1 = bt145.1 then (if a0_3 = bt145.2 then ((selvageref10_start.f a0_0 bt145.1).bind fun t148 => (if t148 = true then ((selvageref10_start.f a0_2 bt145.2).bind fun t149 => (if t149 = true then (selvageref10_Valid.j0 k (decide ((a0_4.size : Int) ≤ 4096)) a0_0 a0_1 a0_2 a0_3 a0_4 l0_5) else (selvageref10_Valid.j0 k false a0_0 a0_1 a0_2 a0_3 a0_4 l0_5))) else (selvageref10_Valid.j0 k false a0_0 a0_1 a0_2 a0_3 a0_4 l0_5))) else (selvageref10_Valid.j0 k false a0_0 a0_1 a0_2 a0_3 a0_4 l0_5)) else (selvageref10_Valid.j0 k false a0_0 a0_1 a0_2 a0_3 a0_4 l0_5)) else (selvageref10_Valid.j0 k false a0_0 a0_1 a0_2 a0_3 a0_4 l0_5)))
end Go.Proofs.YtecjoofjiockkaaGreatDoor.Pp
