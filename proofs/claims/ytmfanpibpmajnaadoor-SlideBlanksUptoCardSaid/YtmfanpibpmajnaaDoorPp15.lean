-- Printed by this session's pp.py over the kit's printer, out of the translation. Lean checks it.
import Derived.Test.YtmfanpibpmajnaaDoorESq
import Derived.Test.YtmfanpibpmajnaaDoorPp0
import Derived.Test.YtmfanpibpmajnaaDoorPp2
import Derived.Test.YtmfanpibpmajnaaDoorPp6
import Derived.Test.YtmfanpibpmajnaaDoorPp8
import Derived.Test.YtmfanpibpmajnaaDoorPp13
import Derived.Test.YtmfanpibpmajnaaDoorPp14
namespace Go.Proofs.YtmfanpibpmajnaaDoor.Pp
open Go.RowKit Go.Proofs.YtmfanpibpmajnaaDoor.Ext Go.Proofs.YtmfanpibpmajnaaDoorW.PrintWords Go.Proofs.YtmfanpibpmajnaaDoorW.PrintLast Go.Proofs.YtmfanpibpmajnaaDoorW.PrintMore
attribute [local go_sem] max2_int min2_int max_two min_two max_three min_three max_four min_four   -- for this text's walks alone
set_option linter.unusedVariables false
set_option linter.unusedSimpArgs false
def selvagelaw09_SlideOwn.l0 : Nat → List (S43) → List Int → List Int → List (S43) → Int → Option (Bool)
 | 0, _, _, _, _, _ => none
 | k + 1, x0, x1, x2, x7, x9 => if x9 < (x7.length : Int) then (if 0 ≤ x9 then (selvagelaw09_SlideOwn.l0 k x0 x1 x2 (x7.set (x9 : Int).toNat (⟨(-7), 0, 0, 0⟩ : S43)) (wrap64 (x9 + 1))) else (none)) else ((some (([(⟨(-8), 0, 0, 0⟩ : S43), (⟨(-8), 0, 0, 0⟩ : S43)] : List (S43)) : List (S43))).bind fun y340 => (if x7.length + y340.length < 4398046511104 then ((some (x7 ++ y340 : List (S43))).bind fun y343 => ((slide_Slide.f k x0 x1 x2).bind fun bt346 => ((selvageref09_Slide.f k x0 x1 x2).bind fun bt350 => ((selvagelaw09_same.f k bt346.1 bt350.1).bind fun t354 => (if t354 = true then (if 0 ≤ (wrap64 ((y343.length : Int) - 1)) then (if (wrap64 ((y343.length : Int) - 1)) < (y343.length : Int) then (if ((rd_T43 y343 (wrap64 ((y343.length : Int) - 1))).f0) = (-8) then ((selvagelaw09_sure.f k).bind fun t356 => (some t356)) else (some false)) else (none)) else (none)) else (some false)))))) else (none)))
def selvagelaw09_SlideOwn.f (k : Nat) (l0 : List (S43)) (l1 : List Int) (l2 : List Int) : Option (Bool) := (slide_Slide.f k l0 l1 l2).bind fun bt335 => (selvagelaw09_SlideOwn.l0 k l0 l1 l2 bt335.1 0)
end Go.Proofs.YtmfanpibpmajnaaDoor.Pp
