/-
  More blocks that the printed texts hold again and again, as lemmas with automatic arguments (squeeze2.py puts their names in the blocks' place).
-/
import Derived.Test.YtkoagpnoaibdjaaESq
import Derived.Test.YtkoagpnoaibdjaaWLast
import Derived.Test.YtkoagpnoaibdjaaWTab
namespace Go.Proofs.Ytkoagpnoaibdjaa.Ext
open Go.RowKit Go.Proofs.YtkoagpnoaibdjaaW.PrintWords Go.Proofs.YtkoagpnoaibdjaaW.PrintLast
set_option linter.unusedVariables false
theorem bkc {w : World} {g : Nat} {t : TypeId} {cs : Array Value} {v : Value} (h : w.heap[g]? = some (.cells cs t (0, 0))) (i : Nat) (e : cs[i]? = some v) : w.cell? ⟨g, i, none⟩ = some v := (blk_cell h i).trans e
section
variable {P : Program} {ops : Array Oper} {Q : Exit → Act → World → Prop} {md : Region.Mode} {S : World → Prop} {ds : List Nat}
theorem boxEv {rest : List Oper} {o : Oper} {a : Act} {W : World} {N : Tmp} (cs : Array Value) (t : TypeId)
    (h : ∀ g, g = W.heap.size → ∀ w1, w1.heap[g]? = some (.cells cs t (0, 0)) → Below W.heap.size W w1 → wpList P ops Q rest (a.put o.dst (.pointer (some ⟨g, 0, none⟩))) w1)
    (hd : o.dst = some N := by rfl) (hgd : o.guard = none := by rfl)
    (hrun : (execOp a.eval o).run P W = .ok (.value (.pointer (some ⟨W.heap.size, 0, none⟩))) (W.alloc (.cells cs t (0, 0))) := by first | (go_simp; done) | (go_simp; rfl)) : wpList P ops Q (o :: rest) a W :=
  box_event hgd hd hrun h
theorem cUp {w W : World} {a : Addr} {v : Value} (hb : Below w.heap.size w W) (hx : w.cell? a = some v) : W.cell? a = some v := (hb.cell (World.block_lt_of_cell? w _ hx)).trans hx
end
end Go.Proofs.Ytkoagpnoaibdjaa.Ext
