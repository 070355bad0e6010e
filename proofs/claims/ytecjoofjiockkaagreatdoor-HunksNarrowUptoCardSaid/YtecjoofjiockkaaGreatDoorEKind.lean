/-
  The laws' parameters: weights, bounds, and how they are opened (written by opengen.py).
-/
import Derived.Test.YtecjoofjiockkaaGreatDoorEOpen
import Derived.Test.YtecjoofjiockkaaGreatDoorPp0
import Derived.KernelRfl
namespace Go.Proofs.YtecjoofjiockkaaGreatDoor.Ext
open Go.ChangeShapes Go.WideShapes Go.RowKit Go.Proofs.YtecjoofjiockkaaGreatDoorW.PrintWords Go.Proofs.YtecjoofjiockkaaGreatDoor.Pp
def wt53 (x : S53) : Nat := 1 + (x.f1.size + 1) + 1
def ok53 (x : S53) : Prop := ((Lit.int .i64 x.f0).wf = true) ∧ (True)
set_option maxRecDepth 10000 in
theorem opens53 : Opens Tryz.prog 53 k53 wt53 ok53 := by
  refine Opens.mk (by kernel_rfl) fun enc w held fuel cs x h => ?_
  obtain ⟨xs, n, _, rfl, hl, hlen, hf⟩ := DataW.trod_struct Tryz.underlying53 h
  have c3 : Tryz.prog.cellsOf 3 = 1 := by kernel_rfl
  have c9 : Tryz.prog.cellsOf 9 = 1 := by kernel_rfl
  have ct : Tryz.prog.cellsOf 53 = 2 := by kernel_rfl
  rw [ct] at hl
  match xs, hlen with
  | [y0, y1], _ =>
    have t0 : DataW.trod enc Tryz.prog w 0 (fun _ => true) held n 3 ((cs.drop 0).take (Tryz.prog.cellsOf 3)) = some y0 := hf 0 _ rfl
    rw [c3] at t0
    obtain ⟨a0, hK0, hw0, ho0⟩ := (opens_int (P := Tryz.prog) Tryz.underlying3 (by kernel_rfl)).2 enc w held n _ y0 t0
    replace hw0 : 1 ≤ Rows.uptoBulk y0.1 := hw0
    have t1 : DataW.trod enc Tryz.prog w 0 (fun _ => true) held n 9 ((cs.drop 1).take (Tryz.prog.cellsOf 9)) = some y1 := hf 1 _ rfl
    rw [c9] at t1
    obtain ⟨a1, hK1, hw1, ho1⟩ := (opens_string (P := Tryz.prog) Tryz.underlying9 (by kernel_rfl)).2 enc w held n _ y1 t1
    replace hw1 : (a1.size + 1) ≤ Rows.uptoBulk y1.1 := hw1
    have e_ : (cs.drop 1).take 1 = cs.drop 1 := List.take_of_length_le (by rw [List.length_drop, hl]; exact Nat.le_refl _)
    have hcs : cs = (cs.drop 0).take 1 ++ ((cs.drop 1).take 1) := by
      rw [e_]
      rw [show (cs.drop 0).take 1 ++ cs.drop 1 = cs.drop 0 from take_drop_one cs 0 1]
      rfl
    refine ⟨⟨a0, a1⟩, ⟨_, _, hcs, hK0, hK1⟩, ?_, ho0, ho1⟩
    simp only [Rows.uptoBulk, Rows.uptoBulkAll, List.map_cons, List.map_nil, wt53]
    omega
def wt29 (x : S29) : Nat := 1 + 1 + 1 + 1 + (x.f4.size + 1) + ((x.f5.map wt53).sum + 1) + 1
def ok29 (x : S29) : Prop := ((Lit.int .i64 x.f0).wf = true) ∧ ((Lit.int .i64 x.f1).wf = true) ∧ ((Lit.int .i64 x.f2).wf = true) ∧ ((Lit.int .i64 x.f3).wf = true) ∧ (True) ∧ (∀ z_ ∈ x.f5, ok53 z_)
set_option maxRecDepth 10000 in
theorem opens29 : Opens Tryz.prog 29 k29 wt29 ok29 := by
  refine Opens.mk (by kernel_rfl) fun enc w held fuel cs x h => ?_
  obtain ⟨xs, n, _, rfl, hl, hlen, hf⟩ := DataW.trod_struct Tryz.underlying29 h
  have c3 : Tryz.prog.cellsOf 3 = 1 := by kernel_rfl
  have c9 : Tryz.prog.cellsOf 9 = 1 := by kernel_rfl
  have c27 : Tryz.prog.cellsOf 27 = 1 := by kernel_rfl
  have ct : Tryz.prog.cellsOf 29 = 6 := by kernel_rfl
  rw [ct] at hl
  match xs, hlen with
  | [y0, y1, y2, y3, y4, y5], _ =>
    have t0 : DataW.trod enc Tryz.prog w 0 (fun _ => true) held n 3 ((cs.drop 0).take (Tryz.prog.cellsOf 3)) = some y0 := hf 0 _ rfl
    rw [c3] at t0
    obtain ⟨a0, hK0, hw0, ho0⟩ := (opens_int (P := Tryz.prog) Tryz.underlying3 (by kernel_rfl)).2 enc w held n _ y0 t0
    replace hw0 : 1 ≤ Rows.uptoBulk y0.1 := hw0
    have t1 : DataW.trod enc Tryz.prog w 0 (fun _ => true) held n 3 ((cs.drop 1).take (Tryz.prog.cellsOf 3)) = some y1 := hf 1 _ rfl
    rw [c3] at t1
    obtain ⟨a1, hK1, hw1, ho1⟩ := (opens_int (P := Tryz.prog) Tryz.underlying3 (by kernel_rfl)).2 enc w held n _ y1 t1
    replace hw1 : 1 ≤ Rows.uptoBulk y1.1 := hw1
    have t2 : DataW.trod enc Tryz.prog w 0 (fun _ => true) held n 3 ((cs.drop 2).take (Tryz.prog.cellsOf 3)) = some y2 := hf 2 _ rfl
    rw [c3] at t2
    obtain ⟨a2, hK2, hw2, ho2⟩ := (opens_int (P := Tryz.prog) Tryz.underlying3 (by kernel_rfl)).2 enc w held n _ y2 t2
    replace hw2 : 1 ≤ Rows.uptoBulk y2.1 := hw2
    have t3 : DataW.trod enc Tryz.prog w 0 (fun _ => true) held n 3 ((cs.drop 3).take (Tryz.prog.cellsOf 3)) = some y3 := hf 3 _ rfl
    rw [c3] at t3
    obtain ⟨a3, hK3, hw3, ho3⟩ := (opens_int (P := Tryz.prog) Tryz.underlying3 (by kernel_rfl)).2 enc w held n _ y3 t3
    replace hw3 : 1 ≤ Rows.uptoBulk y3.1 := hw3
    have t4 : DataW.trod enc Tryz.prog w 0 (fun _ => true) held n 9 ((cs.drop 4).take (Tryz.prog.cellsOf 9)) = some y4 := hf 4 _ rfl
    rw [c9] at t4
    obtain ⟨a4, hK4, hw4, ho4⟩ := (opens_string (P := Tryz.prog) Tryz.underlying9 (by kernel_rfl)).2 enc w held n _ y4 t4
    replace hw4 : (a4.size + 1) ≤ Rows.uptoBulk y4.1 := hw4
    have t5 : DataW.trod enc Tryz.prog w 0 (fun _ => true) held n 27 ((cs.drop 5).take (Tryz.prog.cellsOf 27)) = some y5 := hf 5 _ rfl
    rw [c27] at t5
    obtain ⟨a5, hK5, hw5, ho5⟩ := (opens_slice (P := Tryz.prog) Tryz.underlying27 (by kernel_rfl) opens53).2 enc w held n _ y5 t5
    replace hw5 : ((a5.map wt53).sum + 1) ≤ Rows.uptoBulk y5.1 := hw5
    have e_ : (cs.drop 5).take 1 = cs.drop 5 := List.take_of_length_le (by rw [List.length_drop, hl]; exact Nat.le_refl _)
    have hcs : cs = (cs.drop 0).take 1 ++ ((cs.drop 1).take 1 ++ ((cs.drop 2).take 1 ++ ((cs.drop 3).take 1 ++ ((cs.drop 4).take 1 ++ ((cs.drop 5).take 1))))) := by
      rw [e_]
      rw [show (cs.drop 4).take 1 ++ cs.drop 5 = cs.drop 4 from take_drop_one cs 4 1]
      rw [show (cs.drop 3).take 1 ++ cs.drop 4 = cs.drop 3 from take_drop_one cs 3 1]
      rw [show (cs.drop 2).take 1 ++ cs.drop 3 = cs.drop 2 from take_drop_one cs 2 1]
      rw [show (cs.drop 1).take 1 ++ cs.drop 2 = cs.drop 1 from take_drop_one cs 1 1]
      rw [show (cs.drop 0).take 1 ++ cs.drop 1 = cs.drop 0 from take_drop_one cs 0 1]
      rfl
    refine ⟨⟨a0, a1, a2, a3, a4, a5⟩, ⟨_, _, hcs, hK0, ⟨_, _, rfl, hK1, ⟨_, _, rfl, hK2, ⟨_, _, rfl, hK3, ⟨_, _, rfl, hK4, hK5⟩⟩⟩⟩⟩, ?_, ho0, ho1, ho2, ho3, ho4, ho5⟩
    simp only [Rows.uptoBulk, Rows.uptoBulkAll, List.map_cons, List.map_nil, wt29]
    omega
end Go.Proofs.YtecjoofjiockkaaGreatDoor.Ext
