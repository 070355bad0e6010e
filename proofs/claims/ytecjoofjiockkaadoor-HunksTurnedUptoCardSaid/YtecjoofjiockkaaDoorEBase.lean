/-
  What the texts of this seat lean on beside the printed words: how an error is told (a number, or none), and that the variable errors.errorType holds what it was laid with; that stays so in every later world.
-/
import Derived.Test.YtecjoofjiockkaaDoorProg
import Derived.WalkKit
import Derived.LaidEql
import Derived.Stop.Asserts
import Derived.RowKitTokens
import Derived.Test.YtecjoofjiockkaaDoorWWords
namespace Go.Proofs.YtecjoofjiockkaaDoor.Ext
open Go.RowKit Go.Extern.Stop Go.Stop Go.Extern Go.Proofs.YtecjoofjiockkaaDoorW.PrintWords
def errW : Option Int → Value
  | none => .nilIface
  | some c => .iface 57 (.int .i64 c)
theorem errW_none : errW none = .nilIface := rfl
theorem errW_some (c : Int) : errW (some c) = .iface 57 (.int .i64 c) := rfl
theorem u8_w (n : Int) : IntKind.u8.wrap n = n % 256 := by simp [IntKind.wrap, IntKind.bits, IntKind.signed]
theorem bne_nil (l : List UInt8) : (l != ([] : List UInt8)) = !l.isEmpty := by cases l <;> rfl
theorem beq_nil (l : List UInt8) : (l == ([] : List UInt8)) = l.isEmpty := by cases l <;> rfl
def Glob (w : World) : Prop := w.cell? ⟨0, 0, none⟩ = some (.iface 113 (.agg #[.pointer (some ⟨4, 28, none⟩)])) ∧ ∃ m, w.cell? ⟨1, 0, none⟩ = some (.int .i64 m)
theorem cell_lt {w : World} {p : Addr} {v : Value} (h : w.cell? p = some v) : p.block < w.heap.size := by
  rcases Nat.lt_or_ge p.block w.heap.size with h0 | h0
  · exact h0
  · simp [World.cell?, Array.getElem?_eq_none h0] at h
theorem Glob.cell {w : World} (h : Glob w) : w.cell? ⟨0, 0, none⟩ = some (.iface 113 (.agg #[.pointer (some ⟨4, 28, none⟩)])) := h.1
theorem Glob.lt {w : World} (h : Glob w) : 0 < w.heap.size := cell_lt h.1
theorem Glob.below {w w' : World} (h : Glob w) (hb : Below w.heap.size w w') : Glob w' :=
  ⟨(hb.cell (p := ⟨0, 0, none⟩) h.lt).trans h.1, h.2.imp fun _ hm => (hb.cell (p := ⟨1, 0, none⟩) (cell_lt hm)).trans hm⟩
theorem Glob.drawn {w w' : World} (h : Glob w) (hb : Drawn0 w w') : Glob w' := h.below hb.below
end Go.Proofs.YtecjoofjiockkaaDoor.Ext
