/-
  strings.Contains at a text of one byte, as the printed words want it: out of the library's contract, laid at this translation.
-/
import Derived.Test.YtkoagpnoaibdjaaEBase
import Derived.Test.YtkoagpnoaibdjaaEShelf
import Derived.Test.YtkoagpnoaibdjaaWLast
namespace Go.Proofs.Ytkoagpnoaibdjaa.Ext
open Go.RowKit Go.Proofs.YtkoagpnoaibdjaaW.PrintWords Go.Proofs.YtkoagpnoaibdjaaW.PrintLast
def oneByte (s : ByteArray) : Option UInt8 :=
  match s.data.toList with
  | [c] => some c
  | _ => none
theorem oneByte_eq {s : ByteArray} {c : UInt8} (h : oneByte s = some c) : s = ⟨#[c]⟩ := by
  unfold oneByte at h
  split at h
  · rename_i x hx
    obtain rfl := Option.some.inj h
    cases s
    simp only at hx
    congr 1
    exact Array.ext' hx
  · cases h
def strings_Contains.f (a0 a1 : ByteArray) : Option Bool := (oneByte a1).map fun c => decide (0 ≤ Lib.indexByte a0.data.toList c)
theorem strings_Contains.calls (a0 a1 : ByteArray) (r : Bool) (w : World) (h : strings_Contains.f a0 a1 = some r) :
    Calls Try.prog 49 #[.string a0, .string a1] w fun e w' => e = .returned (.bool r) ∧ Drawn0 w w' := by
  obtain ⟨c, hc, rfl⟩ := Option.map_eq_some_iff.mp h
  obtain rfl := oneByte_eq hc
  refine (Try.strings_Contains_one a0 c w).mono ?_
  rintro e w' ⟨rfl, rfl⟩
  exact ⟨rfl, Drawn0.refl _⟩
end Go.Proofs.Ytkoagpnoaibdjaa.Ext
namespace Go.Proofs.Ytkoagpnoaibdjaa.Ext
open Go.RowKit Go.Proofs.YtkoagpnoaibdjaaW.PrintWords Go.Proofs.YtkoagpnoaibdjaaW.PrintLast
def strings_IndexByte.f (a0 : ByteArray) (a1 : Int) : Option Int := some (Lib.indexByte a0.data.toList (UInt8.ofNat a1.toNat))
theorem strings_IndexByte.calls (a0 : ByteArray) (a1 : Int) (r : Int) (w : World) (h : strings_IndexByte.f a0 a1 = some r) :
    Calls Try.prog 45 #[.string a0, .int .u8 a1] w fun e w' => e = .returned (.int .i64 r) ∧ Drawn0 w w' := by
  obtain rfl := Option.some.inj h
  refine (Try.strings_IndexByte a0 a1 w).mono ?_
  rintro e w' ⟨rfl, rfl⟩
  exact ⟨rfl, Drawn0.refl _⟩
end Go.Proofs.Ytkoagpnoaibdjaa.Ext
