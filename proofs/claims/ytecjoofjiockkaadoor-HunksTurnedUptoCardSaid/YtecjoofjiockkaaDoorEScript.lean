/-
  hunks.Script; walked by hand.
-/
import Derived.Test.YtecjoofjiockkaaDoorPp8
import Derived.Test.YtecjoofjiockkaaDoorPp7
import Derived.Test.YtecjoofjiockkaaDoorPp13
import Derived.Test.YtecjoofjiockkaaDoorEBase
import Derived.Test.YtecjoofjiockkaaDoorWWords
import Derived.Test.YtecjoofjiockkaaDoorWLast
import Derived.Stop.Asserts
import Derived.LaidEql
import Derived.Test.YtecjoofjiockkaaDoorESt
import Derived.Test.YtecjoofjiockkaaDoorEPure
import Derived.OneCell
namespace Go.Proofs.YtecjoofjiockkaaDoor.Ext
open Go.RowKit Go.Proofs.YtecjoofjiockkaaDoor.Pp Go.Proofs.YtecjoofjiockkaaDoorW.PrintWords Go.Proofs.YtecjoofjiockkaaDoorW.PrintLast Go.Proofs.YtecjoofjiockkaaDoorW.PrintMore
set_option linter.unusedVariables false
set_option linter.unusedSimpArgs false
def aheadF (a n : Int) : Int := if n > 0 then wrap64 (a - 1) else a
def scrRows : List S56 → Int → Int → List S53 → Option S53 → List S53
  | [], _, _, out, cur => out ++ cur.toList
  | r :: t, a, b, out, cur =>
    if r.f0 = 1 then scrRows t (wrap64 (a + 1)) (wrap64 (b + 1)) (out ++ cur.toList) none
    else if r.f0 = 2 then scrRows t (wrap64 (a + 1)) b out (some ⟨(cur.getD ⟨a, 0, b, 0⟩).f0, wrap64 ((cur.getD ⟨a, 0, b, 0⟩).f1 + 1), (cur.getD ⟨a, 0, b, 0⟩).f2, (cur.getD ⟨a, 0, b, 0⟩).f3⟩)
    else scrRows t a (wrap64 (b + 1)) out (some ⟨(cur.getD ⟨a, 0, b, 0⟩).f0, (cur.getD ⟨a, 0, b, 0⟩).f1, (cur.getD ⟨a, 0, b, 0⟩).f2, wrap64 ((cur.getD ⟨a, 0, b, 0⟩).f3 + 1)⟩)
def scrHunks : List S41 → List S53 → List S53
  | [], out => out
  | h :: t, out => scrHunks t (scrRows h.f5 (aheadF h.f0 h.f1) (aheadF h.f2 h.f3) out none)
abbrev ChgR (w : World) (base : Nat) (v : Value) (l : List S53) : Prop := Kd.R k53 53 w base (fun _ => True) v l
structure ScrIn (w0 : World) (v : Value) (out : List S53) (w : World) : Prop where
  below : Below w0.heap.size w0 w
  r : ChgR w w0.heap.size v out
section
variable {w0 w w1 : World} {v v1 : Value} {out out1 : List S53} {g : Nat} {cs : Array Value}
theorem ScrIn.then (i : ScrIn w0 v out w) (k : Below w.heap.size w w1) : ScrIn w0 v out w1 := ⟨below_step i.below k, Kd.R_below i.r k⟩
theorem ScrIn.set {t : Nat} (i : ScrIn w0 v out w) (hb : w.heap[g]? = some (.cells cs t (0, 0))) (ht : ∀ q, q ∈ 53 :: k53.E → q ≠ t) (l : w0.heap.size ≤ g) (j : Nat) (y : Value) : ScrIn w0 v out (w.setCell ⟨g, j, none⟩ y) :=
  ⟨below_set i.below l, Kd.R_set i.r hb ht j y⟩
structure ScrH (w0 : World) (gh : Nat) (A5 : Option Addr) (c5 : Nat) (g : S41) (w : World) : Prop where
  b : w.heap[gh]? = some (.cells #[.int .i64 g.f0, .int .i64 g.f1, .int .i64 g.f2, .int .i64 g.f3, .string g.f4, .slice A5 g.f5.length c5] 41 (0, 0))
  l : w0.heap.size ≤ gh
theorem ScrH.then {gh c5 : Nat} {A5 : Option Addr} {g : S41} (i : ScrH w0 gh A5 c5 g w) (k : Below w.heap.size w w1) : ScrH w0 gh A5 c5 g w1 := ⟨blk_below i.b k, i.l⟩
theorem ScrH.far {gh c5 : Nat} {A5 : Option Addr} {g : S41} (i : ScrH w0 gh A5 c5 g w) {q t : Nat} (hb : w.heap[q]? = some (.cells cs t (0, 0))) (ht : 41 ≠ t) (j : Nat) (y : Value) : ScrH w0 gh A5 c5 g (w.setCell ⟨q, j, none⟩ y) := ⟨blk_far i.b (blk_ne i.b hb ht) y, i.l⟩
theorem ScrH.grown {gh c5 : Nat} {A5 : Option Addr} {g : S41} (i : ScrH w0 gh A5 c5 g w) (h : ScrIn w0 v out w) (hg : w.grownBy w1 v.ownBlock) : ScrH w0 gh A5 c5 g w1 := ⟨blk_grown i.b hg (Kd.R_ne h.r i.b (by decide)), i.l⟩
theorem ScrH.cells {gh c5 : Nat} {A5 : Option Addr} {g : S41} (i : ScrH w0 gh A5 c5 g w) : w.cell? ⟨gh, 0, none⟩ = some (.int .i64 g.f0) ∧ w.cell? ⟨gh, 1, none⟩ = some (.int .i64 g.f1) ∧ w.cell? ⟨gh, 2, none⟩ = some (.int .i64 g.f2) ∧ w.cell? ⟨gh, 3, none⟩ = some (.int .i64 g.f3) ∧ w.cell? ⟨gh, 5, none⟩ = some (.slice A5 g.f5.length c5) :=
  ⟨(blk_cell i.b 0).trans rfl, (blk_cell i.b 1).trans rfl, (blk_cell i.b 2).trans rfl, (blk_cell i.b 3).trans rfl, (blk_cell i.b 5).trans rfl⟩
end
end Go.Proofs.YtecjoofjiockkaaDoor.Ext
