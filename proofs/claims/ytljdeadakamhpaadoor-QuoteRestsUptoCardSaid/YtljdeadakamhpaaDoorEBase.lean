/-
  What the texts of this seat lean on beside the printed words: how an error is told (a number, or none), and that the variable errors.errorType holds what it was laid with; that stays so in every later world.
-/
import Derived.Test.YtljdeadakamhpaaDoorProg
import Derived.WalkKit
import Derived.LaidEql
import Derived.Stop.Asserts
import Derived.RowKitTokens
import Derived.Test.YtljdeadakamhpaaDoorWWords
namespace Go.Proofs.YtljdeadakamhpaaDoor.Ext
open Go.RowKit Go.Extern.Stop Go.Stop Go.Extern Go.Proofs.YtljdeadakamhpaaDoorW.PrintWords

def errW : Option Int → Value
  | none => .nilIface
  | some c => .iface 46 (.int .i64 c)
theorem errW_none : errW none = .nilIface := rfl
theorem errW_some (c : Int) : errW (some c) = .iface 46 (.int .i64 c) := rfl

theorem u8_w (n : Int) : IntKind.u8.wrap n = n % 256 := by simp [IntKind.wrap, IntKind.bits, IntKind.signed]

/-- errors.errorType holds what it was laid with. -/
def Glob (w : World) : Prop := w.cell? ⟨0, 0, none⟩ = some (.iface 79 (.agg #[.pointer (some ⟨2, 26, none⟩)]))
theorem Glob.lt {w : World} (h : Glob w) : 0 < w.heap.size := by
  rcases Nat.lt_or_ge 0 w.heap.size with h0 | h0
  · exact h0
  · simp [Glob, World.cell?, Array.getElem?_eq_none h0] at h
theorem Glob.below {w w' : World} (h : Glob w) (hb : Below w.heap.size w w') : Glob w' := (hb.cell (p := ⟨0, 0, none⟩) h.lt).trans h
theorem Glob.drawn {w w' : World} (h : Glob w) (hb : Drawn0 w w') : Glob w' := h.below hb.below
end Go.Proofs.YtljdeadakamhpaaDoor.Ext
