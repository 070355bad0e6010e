import Derived.Test.YtecjoofjiockkaaGreatDoorESt
import Derived.Test.YtecjoofjiockkaaGreatDoorPp0
import Derived.Test.YtecjoofjiockkaaGreatDoorPp20
namespace Go.Proofs.YtecjoofjiockkaaGreatDoor.Pp
open Go.RowKit Go.Proofs.YtecjoofjiockkaaGreatDoor.Ext Go.Proofs.YtecjoofjiockkaaGreatDoorW.PrintWords Go.Proofs.YtecjoofjiockkaaGreatDoorW.PrintLast Go.Proofs.YtecjoofjiockkaaGreatDoorW.PrintMore
attribute [local go_sem] max2_int min2_int max_two min_two max_three min_three max_four min_four   -- for this text's walks alone
set_option linter.unusedVariables false
set_option linter.unusedSimpArgs false
mutual
def selvageref06_Of.j0 : Nat → List (S94) → Int → Int → Bool → Option ((List (S49)) × Int)
 | 0, _, _, _, _ => none
 | k + 1, x0, x1, x2, x27 => if x27 = true then (some (([] : List (S49)), 1)) else (selvageref06_Of.l0 k x0 x1 x2 ([] : List (S49)) 0 0 0)
def selvageref06_Of.l0 : Nat → List (S94) → Int → Int → List (S49) → Int → Int → Int → Option ((List (S49)) × Int)
 | 0, _, _, _, _, _, _, _ => none
 | k + 1, x0, x1, x2, x8, x9, x10, x11 => if x11 ≤ (x0.length : Int) then (if x11 < (x0.length : Int) then (if 0 ≤ x11 then (if ((rd_T94 x0 x11).f0) < x9 then (selvageref06_Of.j2 k x0 x1 x2 x8 x9 x10 x11 ((rd_T94 x0 x11).f0) ((rd_T94 x0 x11).f1) true) else (if ((rd_T94 x0 x11).f1) < x10 then (selvageref06_Of.j2 k x0 x1 x2 x8 x9 x10 x11 ((rd_T94 x0 x11).f0) ((rd_T94 x0 x11).f1) true) else (if ((rd_T94 x0 x11).f0) ≥ x1 then (selvageref06_Of.j2 k x0 x1 x2 x8 x9 x10 x11 ((rd_T94 x0 x11).f0) ((rd_T94 x0 x11).f1) true) else (selvageref06_Of.j2 k x0 x1 x2 x8 x9 x10 x11 ((rd_T94 x0 x11).f0) ((rd_T94 x0 x11).f1) (decide (((rd_T94 x0 x11).f1) ≥ x2)))))) else (none)) else (if x1 > x9 then (if x8.length < 4398046511104 then (selvageref06_Of.l0 k x0 x1 x2 (x8 ++ [(⟨x9, wrap64 (x1 - x9), x10, wrap64 (x2 - x10)⟩ : S49)]) (wrap64 (x1 + 1)) (wrap64 (x2 + 1)) (wrap64 (x11 + 1))) else (none)) else (if x2 > x10 then (if x8.length < 4398046511104 then (selvageref06_Of.l0 k x0 x1 x2 (x8 ++ [(⟨x9, wrap64 (x1 - x9), x10, wrap64 (x2 - x10)⟩ : S49)]) (wrap64 (x1 + 1)) (wrap64 (x2 + 1)) (wrap64 (x11 + 1))) else (none)) else (selvageref06_Of.l0 k x0 x1 x2 x8 (wrap64 (x1 + 1)) (wrap64 (x2 + 1)) (wrap64 (x11 + 1)))))) else (some (x8, 0))
def selvageref06_Of.j2 : Nat → List (S94) → Int → Int → List (S49) → Int → Int → Int → Int → Int → Bool → Option ((List (S49)) × Int)
 | 0, _, _, _, _, _, _, _, _, _, _ => none
 | k + 1, x0, x1, x2, x8, x9, x10, x11, x12, x13, x67 => if x67 = true then (some (([] : List (S49)), 60)) else (if x12 > x9 then (if x8.length < 4398046511104 then (selvageref06_Of.l0 k x0 x1 x2 (x8 ++ [(⟨x9, wrap64 (x12 - x9), x10, wrap64 (x13 - x10)⟩ : S49)]) (wrap64 (x12 + 1)) (wrap64 (x13 + 1)) (wrap64 (x11 + 1))) else (none)) else (if x13 > x10 then (if x8.length < 4398046511104 then (selvageref06_Of.l0 k x0 x1 x2 (x8 ++ [(⟨x9, wrap64 (x12 - x9), x10, wrap64 (x13 - x10)⟩ : S49)]) (wrap64 (x12 + 1)) (wrap64 (x13 + 1)) (wrap64 (x11 + 1))) else (none)) else (selvageref06_Of.l0 k x0 x1 x2 x8 (wrap64 (x12 + 1)) (wrap64 (x13 + 1)) (wrap64 (x11 + 1)))))
end
mutual
def selvageref06_pairs.l0 : Nat → List (S49) → Int → List (S94) → Int → Int → Int → Option ((List (S94)))
 | 0, _, _, _, _, _, _ => none
 | k + 1, x0, x1, x5, x6, x7, x8 => if x8 ≤ (x0.length : Int) then (if x8 < (x0.length : Int) then (if 0 ≤ x8 then (selvageref06_pairs.j1 k x0 x1 x5 x6 x7 x8 ((rd_T49 x0 x8).f0)) else (none)) else (selvageref06_pairs.j1 k x0 x1 x5 x6 x7 x8 x1)) else (some x5)
def selvageref06_pairs.j1 : Nat → List (S49) → Int → List (S94) → Int → Int → Int → Int → Option ((List (S94)))
 | 0, _, _, _, _, _, _, _ => none
 | k + 1, x0, x1, x5, x6, x7, x8, x9 => selvageref06_pairs.l1 k x0 x1 x5 x6 x7 x8 x9
def selvageref06_pairs.l1 : Nat → List (S49) → Int → List (S94) → Int → Int → Int → Int → Option ((List (S94)))
 | 0, _, _, _, _, _, _, _ => none
 | k + 1, x0, x1, x5, x6, x7, x8, x9 => if x6 < x9 then (if x5.length < 8796093022208 then (selvageref06_pairs.l1 k x0 x1 (x5 ++ [(⟨x6, x7⟩ : S94)]) (wrap64 (x6 + 1)) (wrap64 (x7 + 1)) x8 x9) else (none)) else (if x8 < (x0.length : Int) then (if 0 ≤ x8 then (selvageref06_pairs.l0 k x0 x1 x5 (wrap64 (((rd_T49 x0 x8).f0) + ((rd_T49 x0 x8).f1))) (wrap64 (((rd_T49 x0 x8).f2) + ((rd_T49 x0 x8).f3))) (wrap64 (x8 + 1))) else (none)) else (selvageref06_pairs.l0 k x0 x1 x5 x6 x7 (wrap64 (x8 + 1))))
end
end Go.Proofs.YtecjoofjiockkaaGreatDoor.Pp
