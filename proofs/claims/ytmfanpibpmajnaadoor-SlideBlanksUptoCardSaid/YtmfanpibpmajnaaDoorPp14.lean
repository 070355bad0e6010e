-- Printed by this session's pp.py over the kit's printer, out of the translation. Lean checks it.
import Derived.Test.YtmfanpibpmajnaaDoorESq
import Derived.Test.YtmfanpibpmajnaaDoorPp0
import Derived.Test.YtmfanpibpmajnaaDoorPp2
import Derived.Test.YtmfanpibpmajnaaDoorPp6
import Derived.Test.YtmfanpibpmajnaaDoorPp8
import Derived.Test.YtmfanpibpmajnaaDoorPp10
import Derived.Test.YtmfanpibpmajnaaDoorPp13
namespace Go.Proofs.YtmfanpibpmajnaaDoor.Pp
open Go.RowKit Go.Proofs.YtmfanpibpmajnaaDoor.Ext Go.Proofs.YtmfanpibpmajnaaDoorW.PrintWords Go.Proofs.YtmfanpibpmajnaaDoorW.PrintLast Go.Proofs.YtmfanpibpmajnaaDoorW.PrintMore
attribute [local go_sem] max2_int min2_int max_two min_two max_three min_three max_four min_four   -- for this text's walks alone
set_option linter.unusedVariables false
set_option linter.unusedSimpArgs false
mutual
def selvageref09_Slide.l0 : Nat → List Int → List Int → List (S43) → List (S43) → Int → Int → Int → Option ((List (S43)) × Int)
 | 0, _, _, _, _, _, _, _ => none
 | k + 1, x1, x2, x9, x11, x12, x13, x14 => if x14 ≥ 0 then (if 0 ≤ x14 then (if x14 < (x9.length : Int) then (selvageref09_Slide.l1 k x1 x2 x9 x11 x12 x13 x14 ((rd_T43 x9 x14).f0) ((rd_T43 x9 x14).f1) ((rd_T43 x9 x14).f2) ((rd_T43 x9 x14).f3)) else (none)) else (none)) else (selvageref09_Slide.l2 k x11 ([] : List (S43)) (wrap64 ((x11.length : Int) - 1)))
def selvageref09_Slide.l1 : Nat → List Int → List Int → List (S43) → List (S43) → Int → Int → Int → Int → Int → Int → Int → Option ((List (S43)) × Int)
 | 0, _, _, _, _, _, _, _, _, _, _, _ => none
 | k + 1, x1, x2, x9, x11, x12, x13, x14, x306000, x306001, x306002, x306003 => (selvageref09_slides.f k x306000 x306001 x306002 x306003 x1 x2 x12 x13).bind fun t306 => (if t306 = true then (selvageref09_Slide.l1 k x1 x2 x9 x11 x12 x13 x14 (wrap64 (x306000 + 1)) x306001 (wrap64 (x306002 + 1)) x306003) else (if (x11.length : Int) > 0 then (if (wrap64 (x306000 + x306001)) = x12 then (if 0 ≤ (wrap64 ((x11.length : Int) - 1)) then (if (wrap64 ((x11.length : Int) - 1)) < (x11.length : Int) then (selvageref09_Slide.l0 k x1 x2 x9 (x11.set ((wrap64 ((x11.length : Int) - 1)) : Int).toNat (⟨x306000, wrap64 (x306001 + ((rd_T43 x11 (wrap64 ((x11.length : Int) - 1))).f1)), x306002, wrap64 (x306003 + ((rd_T43 x11 (wrap64 ((x11.length : Int) - 1))).f3))⟩ : S43)) x306000 x306002 (wrap64 (x14 - 1))) else (none)) else (none)) else (if x11.length < 4398046511104 then (selvageref09_Slide.l0 k x1 x2 x9 (x11 ++ [(⟨x306000, x306001, x306002, x306003⟩ : S43)]) x306000 x306002 (wrap64 (x14 - 1))) else (none))) else (if x11.length < 4398046511104 then (selvageref09_Slide.l0 k x1 x2 x9 (x11 ++ [(⟨x306000, x306001, x306002, x306003⟩ : S43)]) x306000 x306002 (wrap64 (x14 - 1))) else (none))))
def selvageref09_Slide.l2 : Nat → List (S43) → List (S43) → Int → Option ((List (S43)) × Int)
 | 0, _, _, _ => none
 | k + 1, x11, x17, x18 => if x18 ≥ 0 then (if 0 ≤ x18 then (if x18 < (x11.length : Int) then (if x17.length < 4398046511104 then (selvageref09_Slide.l2 k x11 (x17 ++ [(⟨(rd_T43 x11 x18).f0, (rd_T43 x11 x18).f1, (rd_T43 x11 x18).f2, (rd_T43 x11 x18).f3⟩ : S43)]) (wrap64 (x18 - 1))) else (none)) else (none)) else (none)) else (some (x17, 0))
end
def selvageref09_Slide.f (k : Nat) (l0 : List (S43)) (l1 : List Int) (l2 : List Int) : Option ((List (S43)) × Int) := (selvageref06_Fits.f k l0 l1 l2).bind fun t299 => (if t299 = 0 then ((selvageref06_Normal.f k l0 (l1.length : Int) (l2.length : Int)).bind fun bt300 => (selvageref09_Slide.l0 k l1 l2 bt300.1 ([] : List (S43)) (l1.length : Int) (l2.length : Int) (wrap64 ((bt300.1.length : Int) - 1)))) else (some (([] : List (S43)), t299)))
def selvagelaw09_SlideSlides.f (k : Nat) (l0 : List (S43)) (l1 : List Int) (l2 : List Int) : Option (Bool) := if ([] : List (S43)).length + l0.length < 4398046511104 then ((some (([] : List (S43)) ++ l0 : List (S43))).bind fun y320 => ((slide_Slide.f k y320 l1 l2).bind fun bt323 => ((selvageref09_Slide.f k l0 l1 l2).bind fun bt327 => ((selvagelaw09_same.f k bt323.1 bt327.1).bind fun t331 => (if t331 = true then ((selvagelaw09_num.f bt323.2).bind fun t332 => (if t332 = bt327.2 then ((selvagelaw09_same.f k y320 l0).bind fun t333 => (if t333 = true then ((selvagelaw09_sure.f k).bind fun t334 => (some t334)) else (some false))) else (some false))) else (some false)))))) else (none)
end Go.Proofs.YtmfanpibpmajnaaDoor.Pp
