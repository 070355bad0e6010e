/-
  The laws' parameters: weights, bounds, and how they are opened (written by opengen.py).
-/
import Derived.Test.YtecjoofjiockkaaGreatDoorEOpen
import Derived.Test.YtecjoofjiockkaaGreatDoorPp0
import Derived.KernelRfl
namespace Go.Proofs.YtecjoofjiockkaaGreatDoor.Ext
open Go.ChangeShapes Go.WideShapes Go.RowKit Go.Proofs.YtecjoofjiockkaaGreatDoorW.PrintWords Go.Proofs.YtecjoofjiockkaaGreatDoor.Pp
def wt49 (_ : S49) : Nat := 1 + 1 + 1 + 1 + 1
def ok49 (x : S49) : Prop := ((Lit.int .i64 x.f0).wf = true) ∧ ((Lit.int .i64 x.f1).wf = true) ∧ ((Lit.int .i64 x.f2).wf = true) ∧ ((Lit.int .i64 x.f3).wf = true)
set_option maxRecDepth 10000 in
theorem opens49 : Opens Tryz.prog 49 k49 wt49 ok49 := by
  refine Opens.mk (by kernel_rfl) fun enc w held fuel cs x h => ?_
  obtain ⟨xs, n, _, rfl, hl, hlen, hf⟩ := DataW.trod_struct Tryz.underlying49 h
  have c3 : Tryz.prog.cellsOf 3 = 1 := by kernel_rfl
  have ct : Tryz.prog.cellsOf 49 = 4 := by kernel_rfl
  rw [ct] at hl
  match xs, hlen with
  | [y0, y1, y2, y3], _ =>
    have t0 : DataW.trod enc Tryz.prog w 0 (fun _ => true) held n 3 ((cs.drop 0).take (Tryz.prog.cellsOf 3)) = some y0 := hf 0 _ rfl
    rw [c3] at t0
    obtain ⟨a0, hK0, hw0, ho0⟩ := (opens_int (P := Tryz.prog) Tryz.underlying3 (by kernel_rfl)).2 enc w held n _ y0 t0
    replace hw0 : 1 ≤ Rows.uptoBulk y0.1 := hw0
    have t1 : DataW.trod enc Tryz.prog w 0 (fun _ => true) held n 3 ((cs.drop 1).take (Tryz.prog.cellsOf 3)) = some y1 := hf 1 _ rfl
    rw [c3] at t1
    obtain ⟨a1, hK1, hw1, ho1⟩ := (opens_int (P := Tryz.prog) Tryz.underlying3 (by kernel_rfl)).2 enc w held n _ y1 t1
    replace hw1 : 1 ≤ Rows.uptoBulk y1.1 := hw1
    have t2 : DataW.trod enc Tryz.prog w 0 (fun _ => true) held n 3 ((cs.drop 2).take (Tryz.prog.cellsOf 3)) = some y2 := hf 2 _ rfl
    rw [c3] at t2
    obtain ⟨a2, hK2, hw2, ho2⟩ := (opens_int (P := Tryz.prog) Tryz.underlying3 (by kernel_rfl)).2 enc w held n _ y2 t2
    replace hw2 : 1 ≤ Rows.uptoBulk y2.1 := hw2
    have t3 : DataW.trod enc Tryz.prog w 0 (fun _ => true) held n 3 ((cs.drop 3).take (Tryz.prog.cellsOf 3)) = some y3 := hf 3 _ rfl
    rw [c3] at t3
    obtain ⟨a3, hK3, hw3, ho3⟩ := (opens_int (P := Tryz.prog) Tryz.underlying3 (by kernel_rfl)).2 enc w held n _ y3 t3
    replace hw3 : 1 ≤ Rows.uptoBulk y3.1 := hw3
    have e_ : (cs.drop 3).take 1 = cs.drop 3 := List.take_of_length_le (by rw [List.length_drop, hl]; exact Nat.le_refl _)
    have hcs : cs = (cs.drop 0).take 1 ++ ((cs.drop 1).take 1 ++ ((cs.drop 2).take 1 ++ ((cs.drop 3).take 1))) := by
      rw [e_]
      rw [show (cs.drop 2).take 1 ++ cs.drop 3 = cs.drop 2 from take_drop_one cs 2 1]
      rw [show (cs.drop 1).take 1 ++ cs.drop 2 = cs.drop 1 from take_drop_one cs 1 1]
      rw [show (cs.drop 0).take 1 ++ cs.drop 1 = cs.drop 0 from take_drop_one cs 0 1]
      rfl
    refine ⟨⟨a0, a1, a2, a3⟩, ⟨_, _, hcs, hK0, ⟨_, _, rfl, hK1, ⟨_, _, rfl, hK2, hK3⟩⟩⟩, ?_, ho0, ho1, ho2, ho3⟩
    simp only [Rows.uptoBulk, Rows.uptoBulkAll, List.map_cons, List.map_nil, wt49]
    omega
def wt40 (x : S40) : Nat := ((x.f0.map wt49).sum + 1) + ((x.f1.map (fun z => (z.size + 1))).sum + 1) + ((x.f2.map (fun z => (z.size + 1))).sum + 1) + 1 + 1
def ok40 (x : S40) : Prop := (∀ z_ ∈ x.f0, ok49 z_) ∧ (∀ z_ ∈ x.f1, True) ∧ (∀ z_ ∈ x.f2, True) ∧ ((Lit.int .i64 x.f3).wf = true)
set_option maxRecDepth 10000 in
theorem opens40 : Opens Tryz.prog 40 k40 wt40 ok40 := by
  refine Opens.mk (by kernel_rfl) fun enc w held fuel cs x h => ?_
  obtain ⟨xs, n, _, rfl, hl, hlen, hf⟩ := DataW.trod_struct Tryz.underlying40 h
  have c3 : Tryz.prog.cellsOf 3 = 1 := by kernel_rfl
  have c37 : Tryz.prog.cellsOf 37 = 1 := by kernel_rfl
  have c38 : Tryz.prog.cellsOf 38 = 1 := by kernel_rfl
  have ct : Tryz.prog.cellsOf 40 = 4 := by kernel_rfl
  rw [ct] at hl
  match xs, hlen with
  | [y0, y1, y2, y3], _ =>
    have t0 : DataW.trod enc Tryz.prog w 0 (fun _ => true) held n 37 ((cs.drop 0).take (Tryz.prog.cellsOf 37)) = some y0 := hf 0 _ rfl
    rw [c37] at t0
    obtain ⟨a0, hK0, hw0, ho0⟩ := (opens_slice (P := Tryz.prog) Tryz.underlying37 (by kernel_rfl) opens49).2 enc w held n _ y0 t0
    replace hw0 : ((a0.map wt49).sum + 1) ≤ Rows.uptoBulk y0.1 := hw0
    have t1 : DataW.trod enc Tryz.prog w 0 (fun _ => true) held n 38 ((cs.drop 1).take (Tryz.prog.cellsOf 38)) = some y1 := hf 1 _ rfl
    rw [c38] at t1
    obtain ⟨a1, hK1, hw1, ho1⟩ := (opens_slice (P := Tryz.prog) Tryz.underlying38 (by kernel_rfl) (opens_string (P := Tryz.prog) Tryz.underlying9 (by kernel_rfl))).2 enc w held n _ y1 t1
    replace hw1 : ((a1.map (fun z => (z.size + 1))).sum + 1) ≤ Rows.uptoBulk y1.1 := hw1
    have t2 : DataW.trod enc Tryz.prog w 0 (fun _ => true) held n 38 ((cs.drop 2).take (Tryz.prog.cellsOf 38)) = some y2 := hf 2 _ rfl
    rw [c38] at t2
    obtain ⟨a2, hK2, hw2, ho2⟩ := (opens_slice (P := Tryz.prog) Tryz.underlying38 (by kernel_rfl) (opens_string (P := Tryz.prog) Tryz.underlying9 (by kernel_rfl))).2 enc w held n _ y2 t2
    replace hw2 : ((a2.map (fun z => (z.size + 1))).sum + 1) ≤ Rows.uptoBulk y2.1 := hw2
    have t3 : DataW.trod enc Tryz.prog w 0 (fun _ => true) held n 3 ((cs.drop 3).take (Tryz.prog.cellsOf 3)) = some y3 := hf 3 _ rfl
    rw [c3] at t3
    obtain ⟨a3, hK3, hw3, ho3⟩ := (opens_int (P := Tryz.prog) Tryz.underlying3 (by kernel_rfl)).2 enc w held n _ y3 t3
    replace hw3 : 1 ≤ Rows.uptoBulk y3.1 := hw3
    have e_ : (cs.drop 3).take 1 = cs.drop 3 := List.take_of_length_le (by rw [List.length_drop, hl]; exact Nat.le_refl _)
    have hcs : cs = (cs.drop 0).take 1 ++ ((cs.drop 1).take 1 ++ ((cs.drop 2).take 1 ++ ((cs.drop 3).take 1))) := by
      rw [e_]
      rw [show (cs.drop 2).take 1 ++ cs.drop 3 = cs.drop 2 from take_drop_one cs 2 1]
      rw [show (cs.drop 1).take 1 ++ cs.drop 2 = cs.drop 1 from take_drop_one cs 1 1]
      rw [show (cs.drop 0).take 1 ++ cs.drop 1 = cs.drop 0 from take_drop_one cs 0 1]
      rfl
    refine ⟨⟨a0, a1, a2, a3⟩, ⟨_, _, hcs, hK0, ⟨_, _, rfl, hK1, ⟨_, _, rfl, hK2, hK3⟩⟩⟩, ?_, ho0, ho1, ho2, ho3⟩
    simp only [Rows.uptoBulk, Rows.uptoBulkAll, List.map_cons, List.map_nil, wt40]
    omega
end Go.Proofs.YtecjoofjiockkaaGreatDoor.Ext
