/-
  strings.IndexByte, as the printed words want it: out of the library's contract, laid at this translation.
-/
import Derived.Test.YtkoagpnoaibdjaaEBase
import Derived.Test.YtkoagpnoaibdjaaEShelf
import Derived.Test.YtkoagpnoaibdjaaWLast
namespace Go.Proofs.Ytkoagpnoaibdjaa.Ext
open Go.RowKit Go.Proofs.YtkoagpnoaibdjaaW.PrintWords Go.Proofs.YtkoagpnoaibdjaaW.PrintLast
def strings_IndexByte.f (a0 : ByteArray) (a1 : Int) : Option Int := some (Lib.indexByte a0.data.toList (UInt8.ofNat a1.toNat))
theorem strings_IndexByte.calls (a0 : ByteArray) (a1 : Int) (r : Int) (w : World) (h : strings_IndexByte.f a0 a1 = some r) :
    Calls Try.prog 45 #[.string a0, .int .u8 a1] w fun e w' => e = .returned (.int .i64 r) ∧ Drawn0 w w' := by
  obtain rfl := Option.some.inj h
  refine (Try.strings_IndexByte a0 a1 w).mono ?_
  rintro e w' ⟨rfl, rfl⟩
  exact ⟨rfl, Drawn0.refl _⟩
end Go.Proofs.Ytkoagpnoaibdjaa.Ext
