-- Printed by this session's pp.py over the kit's printer, out of the translation. Lean checks it.
import Derived.Test.YtfempodohmhhlaaDoorPp0
import Derived.Test.YtfempodohmhhlaaDoorPp8
import Derived.Test.YtfempodohmhhlaaDoorPp9
import Derived.Test.YtfempodohmhhlaaDoorPp10
import Derived.Test.YtfempodohmhhlaaDoorPp13
namespace Go.Proofs.YtfempodohmhhlaaDoor.Pp
open Go.RowKit Go.Proofs.YtfempodohmhhlaaDoor.Ext Go.Proofs.YtfempodohmhhlaaDoorW.PrintWords Go.Proofs.YtfempodohmhhlaaDoorW.PrintLast Go.Proofs.YtfempodohmhhlaaDoorW.PrintMore
attribute [local go_sem] max2_int min2_int max_two min_two max_three min_three max_four min_four   -- for this text's walks alone
set_option linter.unusedVariables false
set_option linter.unusedSimpArgs false
mutual
def selvageref27_Decode.j0 : Nat → List ByteArray → Bool → Option ((List (S32)) × Int)
  | 0, _, _ => none
  | k + 1, x4, x28 => if x28 = true then (some (([] : List (S32)), 270)) else (selvageref27_Decode.l0 k x4 ([] : List (S32)) 1)
def selvageref27_Decode.l0 : Nat → List ByteArray → List (S32) → Int → Option ((List (S32)) × Int)
  | 0, _, _, _ => none
  | k + 1, x4, x5, x6 => if x6 < (wrap64 ((x4.length : Int) - 1)) then (if 0 ≤ x6 then (if x6 < (x4.length : Int) then ((selvageref27_step.f k (rdOf ByteArray.empty x4 x6)).bind fun bt292 => (if bt292.2.2.2 = true then (if x5.length < 3518437208883 then (selvageref27_Decode.l0 k x4 (x5 ++ [(⟨bt292.1, bt292.2.1, bt292.2.2.1⟩ : S32)]) (wrap64 (x6 + 1))) else (none)) else (some (([] : List (S32)), 270)))) else (none)) else (none)) else (some (x5, 0))
end
def selvageref27_Decode.f (k : Nat) (a0 : ByteArray) : Option ((List (S32)) × Int) := (selvageref01_Split.f k a0).bind fun t286 => (if (t286.length : Int) < 2 then (selvageref27_Decode.j0 k t286 true) else (if 0 < (t286.length : Int) then (if (rdOf ByteArray.empty t286 0).toList = ([115, 101, 108, 118, 97, 103, 101, 32, 106, 111, 117, 114, 110, 97, 108, 32, 49, 10] : List UInt8) then (if 0 ≤ (wrap64 ((t286.length : Int) - 1)) then (if (wrap64 ((t286.length : Int) - 1)) < (t286.length : Int) then (selvageref27_Decode.j0 k t286 ((rdOf ByteArray.empty t286 (wrap64 ((t286.length : Int) - 1))).toList != ([101, 110, 100, 10] : List UInt8))) else (none)) else (none)) else (selvageref27_Decode.j0 k t286 true)) else (none)))
def selvagelaw27_JournalDecodes.f (k : Nat) (a0 : ByteArray) : Option (Bool) := (journal_Decode.f k a0).bind fun bt300 => ((selvageref27_Decode.f k a0).bind fun bt304 => ((selvagelaw27_same.f k bt300.1 bt304.1).bind fun t308 => (if t308 = true then ((selvagelaw27_num.f bt300.2).bind fun t309 => (if t309 = bt304.2 then ((selvagelaw27_sure.f k).bind fun t310 => (some t310)) else (some false))) else (some false))))
def selvagelaw27_JournalOwn.l0 : Nat → ByteArray → List (S32) → Int → Option (Bool)
  | 0, _, _, _ => none
  | k + 1, x0, x3, x5 => if x5 < (x3.length : Int) then (if 0 ≤ x5 then (selvagelaw27_JournalOwn.l0 k x0 (x3.set (x5 : Int).toNat (⟨9, (⟨#[]⟩ : ByteArray), (⟨#[]⟩ : ByteArray)⟩ : S32)) (wrap64 (x5 + 1))) else (none)) else ((some (([(⟨8, (⟨#[]⟩ : ByteArray), (⟨#[]⟩ : ByteArray)⟩ : S32), (⟨8, (⟨#[]⟩ : ByteArray), (⟨#[]⟩ : ByteArray)⟩ : S32)] : List (S32)) : List (S32))).bind fun y316 => (if x3.length + y316.length < 3518437208883 then ((some (x3 ++ y316 : List (S32))).bind fun y319 => ((journal_Decode.f k x0).bind fun bt322 => ((selvageref27_Decode.f k x0).bind fun bt326 => ((selvagelaw27_same.f k bt322.1 bt326.1).bind fun t330 => (if t330 = true then (if 0 ≤ (wrap64 ((y319.length : Int) - 1)) then (if (wrap64 ((y319.length : Int) - 1)) < (y319.length : Int) then (if ((rd_T32 y319 (wrap64 ((y319.length : Int) - 1))).f0) = 8 then ((selvagelaw27_sure.f k).bind fun t332 => (some t332)) else (some false)) else (none)) else (none)) else (some false)))))) else (none)))
def selvagelaw27_JournalOwn.f (k : Nat) (a0 : ByteArray) : Option (Bool) := (journal_Decode.f k a0).bind fun bt311 => (selvagelaw27_JournalOwn.l0 k a0 bt311.1 0)
end Go.Proofs.YtfempodohmhhlaaDoor.Pp
