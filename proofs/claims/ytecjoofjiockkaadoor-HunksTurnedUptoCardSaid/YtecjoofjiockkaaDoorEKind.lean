/-
  The laws' parameters: weights, bounds, and how they are opened (written by opengen.py).
-/
import Derived.Test.YtecjoofjiockkaaDoorEOpen
import Derived.Test.YtecjoofjiockkaaDoorPp0
import Derived.KernelRfl
namespace Go.Proofs.YtecjoofjiockkaaDoor.Ext
open Go.ChangeShapes Go.WideShapes Go.RowKit Go.Proofs.YtecjoofjiockkaaDoorW.PrintWords Go.Proofs.YtecjoofjiockkaaDoor.Pp
def wt53 (_ : S53) : Nat := 1 + 1 + 1 + 1 + 1
def ok53 (x : S53) : Prop := ((Lit.int .i64 x.f0).wf = true) ∧ ((Lit.int .i64 x.f1).wf = true) ∧ ((Lit.int .i64 x.f2).wf = true) ∧ ((Lit.int .i64 x.f3).wf = true)
set_option maxRecDepth 10000 in
theorem opens53 : Opens Tryd.prog 53 k53 wt53 ok53 := by
  refine Opens.mk (by kernel_rfl) fun enc w held fuel cs x h => ?_
  obtain ⟨xs, n, _, rfl, hl, hlen, hf⟩ := DataW.trod_struct Tryd.underlying53 h
  have c3 : Tryd.prog.cellsOf 3 = 1 := by kernel_rfl
  have ct : Tryd.prog.cellsOf 53 = 4 := by kernel_rfl
  rw [ct] at hl
  match xs, hlen with
  | [y0, y1, y2, y3], _ =>
    have t0 : DataW.trod enc Tryd.prog w 0 (fun _ => true) held n 3 ((cs.drop 0).take (Tryd.prog.cellsOf 3)) = some y0 := hf 0 _ rfl
    rw [c3] at t0
    obtain ⟨a0, hK0, hw0, ho0⟩ := (opens_int (P := Tryd.prog) Tryd.underlying3 (by kernel_rfl)).2 enc w held n _ y0 t0
    replace hw0 : 1 ≤ Rows.uptoBulk y0.1 := hw0
    have t1 : DataW.trod enc Tryd.prog w 0 (fun _ => true) held n 3 ((cs.drop 1).take (Tryd.prog.cellsOf 3)) = some y1 := hf 1 _ rfl
    rw [c3] at t1
    obtain ⟨a1, hK1, hw1, ho1⟩ := (opens_int (P := Tryd.prog) Tryd.underlying3 (by kernel_rfl)).2 enc w held n _ y1 t1
    replace hw1 : 1 ≤ Rows.uptoBulk y1.1 := hw1
    have t2 : DataW.trod enc Tryd.prog w 0 (fun _ => true) held n 3 ((cs.drop 2).take (Tryd.prog.cellsOf 3)) = some y2 := hf 2 _ rfl
    rw [c3] at t2
    obtain ⟨a2, hK2, hw2, ho2⟩ := (opens_int (P := Tryd.prog) Tryd.underlying3 (by kernel_rfl)).2 enc w held n _ y2 t2
    replace hw2 : 1 ≤ Rows.uptoBulk y2.1 := hw2
    have t3 : DataW.trod enc Tryd.prog w 0 (fun _ => true) held n 3 ((cs.drop 3).take (Tryd.prog.cellsOf 3)) = some y3 := hf 3 _ rfl
    rw [c3] at t3
    obtain ⟨a3, hK3, hw3, ho3⟩ := (opens_int (P := Tryd.prog) Tryd.underlying3 (by kernel_rfl)).2 enc w held n _ y3 t3
    replace hw3 : 1 ≤ Rows.uptoBulk y3.1 := hw3
    have e_ : (cs.drop 3).take 1 = cs.drop 3 := List.take_of_length_le (by rw [List.length_drop, hl]; exact Nat.le_refl _)
    have hcs : cs = (cs.drop 0).take 1 ++ ((cs.drop 1).take 1 ++ ((cs.drop 2).take 1 ++ ((cs.drop 3).take 1))) := by
      rw [e_]
      rw [show (cs.drop 2).take 1 ++ cs.drop 3 = cs.drop 2 from take_drop_one cs 2 1]
      rw [show (cs.drop 1).take 1 ++ cs.drop 2 = cs.drop 1 from take_drop_one cs 1 1]
      rw [show (cs.drop 0).take 1 ++ cs.drop 1 = cs.drop 0 from take_drop_one cs 0 1]
      rfl
    refine ⟨⟨a0, a1, a2, a3⟩, ⟨_, _, hcs, hK0, ⟨_, _, rfl, hK1, ⟨_, _, rfl, hK2, hK3⟩⟩⟩, ?_, ho0, ho1, ho2, ho3⟩
    simp only [Rows.uptoBulk, Rows.uptoBulkAll, List.map_cons, List.map_nil, wt53]
    omega
def wt25 (x : S25) : Nat := ((x.f0.map wt53).sum + 1) + ((x.f1.map (fun z => (z.size + 1))).sum + 1) + ((x.f2.map (fun z => (z.size + 1))).sum + 1) + 1 + 1
def ok25 (x : S25) : Prop := (∀ z_ ∈ x.f0, ok53 z_) ∧ (∀ z_ ∈ x.f1, True) ∧ (∀ z_ ∈ x.f2, True) ∧ ((Lit.int .i64 x.f3).wf = true)
set_option maxRecDepth 10000 in
theorem opens25 : Opens Tryd.prog 25 k25 wt25 ok25 := by
  refine Opens.mk (by kernel_rfl) fun enc w held fuel cs x h => ?_
  obtain ⟨xs, n, _, rfl, hl, hlen, hf⟩ := DataW.trod_struct Tryd.underlying25 h
  have c3 : Tryd.prog.cellsOf 3 = 1 := by kernel_rfl
  have c22 : Tryd.prog.cellsOf 22 = 1 := by kernel_rfl
  have c23 : Tryd.prog.cellsOf 23 = 1 := by kernel_rfl
  have ct : Tryd.prog.cellsOf 25 = 4 := by kernel_rfl
  rw [ct] at hl
  match xs, hlen with
  | [y0, y1, y2, y3], _ =>
    have t0 : DataW.trod enc Tryd.prog w 0 (fun _ => true) held n 22 ((cs.drop 0).take (Tryd.prog.cellsOf 22)) = some y0 := hf 0 _ rfl
    rw [c22] at t0
    obtain ⟨a0, hK0, hw0, ho0⟩ := (opens_slice (P := Tryd.prog) Tryd.underlying22 (by kernel_rfl) opens53).2 enc w held n _ y0 t0
    replace hw0 : ((a0.map wt53).sum + 1) ≤ Rows.uptoBulk y0.1 := hw0
    have t1 : DataW.trod enc Tryd.prog w 0 (fun _ => true) held n 23 ((cs.drop 1).take (Tryd.prog.cellsOf 23)) = some y1 := hf 1 _ rfl
    rw [c23] at t1
    obtain ⟨a1, hK1, hw1, ho1⟩ := (opens_slice (P := Tryd.prog) Tryd.underlying23 (by kernel_rfl) (opens_string (P := Tryd.prog) Tryd.underlying9 (by kernel_rfl))).2 enc w held n _ y1 t1
    replace hw1 : ((a1.map (fun z => (z.size + 1))).sum + 1) ≤ Rows.uptoBulk y1.1 := hw1
    have t2 : DataW.trod enc Tryd.prog w 0 (fun _ => true) held n 23 ((cs.drop 2).take (Tryd.prog.cellsOf 23)) = some y2 := hf 2 _ rfl
    rw [c23] at t2
    obtain ⟨a2, hK2, hw2, ho2⟩ := (opens_slice (P := Tryd.prog) Tryd.underlying23 (by kernel_rfl) (opens_string (P := Tryd.prog) Tryd.underlying9 (by kernel_rfl))).2 enc w held n _ y2 t2
    replace hw2 : ((a2.map (fun z => (z.size + 1))).sum + 1) ≤ Rows.uptoBulk y2.1 := hw2
    have t3 : DataW.trod enc Tryd.prog w 0 (fun _ => true) held n 3 ((cs.drop 3).take (Tryd.prog.cellsOf 3)) = some y3 := hf 3 _ rfl
    rw [c3] at t3
    obtain ⟨a3, hK3, hw3, ho3⟩ := (opens_int (P := Tryd.prog) Tryd.underlying3 (by kernel_rfl)).2 enc w held n _ y3 t3
    replace hw3 : 1 ≤ Rows.uptoBulk y3.1 := hw3
    have e_ : (cs.drop 3).take 1 = cs.drop 3 := List.take_of_length_le (by rw [List.length_drop, hl]; exact Nat.le_refl _)
    have hcs : cs = (cs.drop 0).take 1 ++ ((cs.drop 1).take 1 ++ ((cs.drop 2).take 1 ++ ((cs.drop 3).take 1))) := by
      rw [e_]
      rw [show (cs.drop 2).take 1 ++ cs.drop 3 = cs.drop 2 from take_drop_one cs 2 1]
      rw [show (cs.drop 1).take 1 ++ cs.drop 2 = cs.drop 1 from take_drop_one cs 1 1]
      rw [show (cs.drop 0).take 1 ++ cs.drop 1 = cs.drop 0 from take_drop_one cs 0 1]
      rfl
    refine ⟨⟨a0, a1, a2, a3⟩, ⟨_, _, hcs, hK0, ⟨_, _, rfl, hK1, ⟨_, _, rfl, hK2, hK3⟩⟩⟩, ?_, ho0, ho1, ho2, ho3⟩
    simp only [Rows.uptoBulk, Rows.uptoBulkAll, List.map_cons, List.map_nil, wt25]
    omega
end Go.Proofs.YtecjoofjiockkaaDoor.Ext
