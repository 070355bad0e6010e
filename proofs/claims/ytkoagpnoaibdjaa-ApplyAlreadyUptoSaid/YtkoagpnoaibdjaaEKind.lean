/-
  The laws' parameters: weights, bounds, and how they are opened (written by opengen.py).
-/
import Derived.Test.YtkoagpnoaibdjaaEOpen
import Derived.Test.YtkoagpnoaibdjaaPp0
import Derived.KernelRfl
namespace Go.Proofs.Ytkoagpnoaibdjaa.Ext
open Go.ChangeShapes Go.WideShapes Go.RowKit Go.Proofs.YtkoagpnoaibdjaaW.PrintWords Go.Proofs.Ytkoagpnoaibdjaa.Pp
def wt57 (_ : S57) : Nat := 1 + 1 + 1 + 1 + 1
def ok57 (x : S57) : Prop := ((Lit.int .i64 x.f0).wf = true) ∧ ((Lit.int .i64 x.f1).wf = true) ∧ ((Lit.int .i64 x.f2).wf = true) ∧ ((Lit.int .i64 x.f3).wf = true)
set_option maxRecDepth 10000 in
theorem opens57 : Opens Try.prog 57 k57 wt57 ok57 := by
  refine Opens.mk (by kernel_rfl) fun enc w held fuel cs x h => ?_
  obtain ⟨xs, n, _, rfl, hl, hlen, hf⟩ := DataW.trod_struct Try.underlying57 h
  have c3 : Try.prog.cellsOf 3 = 1 := by kernel_rfl
  have ct : Try.prog.cellsOf 57 = 4 := by kernel_rfl
  rw [ct] at hl
  match xs, hlen with
  | [y0, y1, y2, y3], _ =>
    have t0 : DataW.trod enc Try.prog w 0 (fun _ => true) held n 3 ((cs.drop 0).take (Try.prog.cellsOf 3)) = some y0 := hf 0 _ rfl
    rw [c3] at t0
    obtain ⟨a0, hK0, hw0, ho0⟩ := (opens_int (P := Try.prog) Try.underlying3 (by kernel_rfl)).2 enc w held n _ y0 t0
    replace hw0 : 1 ≤ Rows.uptoBulk y0.1 := hw0
    have t1 : DataW.trod enc Try.prog w 0 (fun _ => true) held n 3 ((cs.drop 1).take (Try.prog.cellsOf 3)) = some y1 := hf 1 _ rfl
    rw [c3] at t1
    obtain ⟨a1, hK1, hw1, ho1⟩ := (opens_int (P := Try.prog) Try.underlying3 (by kernel_rfl)).2 enc w held n _ y1 t1
    replace hw1 : 1 ≤ Rows.uptoBulk y1.1 := hw1
    have t2 : DataW.trod enc Try.prog w 0 (fun _ => true) held n 3 ((cs.drop 2).take (Try.prog.cellsOf 3)) = some y2 := hf 2 _ rfl
    rw [c3] at t2
    obtain ⟨a2, hK2, hw2, ho2⟩ := (opens_int (P := Try.prog) Try.underlying3 (by kernel_rfl)).2 enc w held n _ y2 t2
    replace hw2 : 1 ≤ Rows.uptoBulk y2.1 := hw2
    have t3 : DataW.trod enc Try.prog w 0 (fun _ => true) held n 3 ((cs.drop 3).take (Try.prog.cellsOf 3)) = some y3 := hf 3 _ rfl
    rw [c3] at t3
    obtain ⟨a3, hK3, hw3, ho3⟩ := (opens_int (P := Try.prog) Try.underlying3 (by kernel_rfl)).2 enc w held n _ y3 t3
    replace hw3 : 1 ≤ Rows.uptoBulk y3.1 := hw3
    have e_ : (cs.drop 3).take 1 = cs.drop 3 := List.take_of_length_le (by rw [List.length_drop, hl]; exact Nat.le_refl _)
    have hcs : cs = (cs.drop 0).take 1 ++ ((cs.drop 1).take 1 ++ ((cs.drop 2).take 1 ++ ((cs.drop 3).take 1))) := by
      rw [e_]
      rw [show (cs.drop 2).take 1 ++ cs.drop 3 = cs.drop 2 from take_drop_one cs 2 1]
      rw [show (cs.drop 1).take 1 ++ cs.drop 2 = cs.drop 1 from take_drop_one cs 1 1]
      rw [show (cs.drop 0).take 1 ++ cs.drop 1 = cs.drop 0 from take_drop_one cs 0 1]
      rfl
    refine ⟨⟨a0, a1, a2, a3⟩, ⟨_, _, hcs, hK0, ⟨_, _, rfl, hK1, ⟨_, _, rfl, hK2, hK3⟩⟩⟩, ?_, ho0, ho1, ho2, ho3⟩
    simp only [Rows.uptoBulk, Rows.uptoBulkAll, List.map_cons, List.map_nil, wt57]
    omega
def wt25 (x : S25) : Nat := ((x.f0.map wt57).sum + 1) + ((x.f1.map (fun z => (z.size + 1))).sum + 1) + ((x.f2.map (fun z => (z.size + 1))).sum + 1) + 1 + 1 + 1
def ok25 (x : S25) : Prop := (∀ z_ ∈ x.f0, ok57 z_) ∧ (∀ z_ ∈ x.f1, True) ∧ (∀ z_ ∈ x.f2, True) ∧ ((Lit.int .i64 x.f3).wf = true) ∧ ((Lit.int .i64 x.f4).wf = true)
set_option maxRecDepth 10000 in
theorem opens25 : Opens Try.prog 25 k25 wt25 ok25 := by
  refine Opens.mk (by kernel_rfl) fun enc w held fuel cs x h => ?_
  obtain ⟨xs, n, _, rfl, hl, hlen, hf⟩ := DataW.trod_struct Try.underlying25 h
  have c3 : Try.prog.cellsOf 3 = 1 := by kernel_rfl
  have c22 : Try.prog.cellsOf 22 = 1 := by kernel_rfl
  have c23 : Try.prog.cellsOf 23 = 1 := by kernel_rfl
  have ct : Try.prog.cellsOf 25 = 5 := by kernel_rfl
  rw [ct] at hl
  match xs, hlen with
  | [y0, y1, y2, y3, y4], _ =>
    have t0 : DataW.trod enc Try.prog w 0 (fun _ => true) held n 22 ((cs.drop 0).take (Try.prog.cellsOf 22)) = some y0 := hf 0 _ rfl
    rw [c22] at t0
    obtain ⟨a0, hK0, hw0, ho0⟩ := (opens_slice (P := Try.prog) Try.underlying22 (by kernel_rfl) opens57).2 enc w held n _ y0 t0
    replace hw0 : ((a0.map wt57).sum + 1) ≤ Rows.uptoBulk y0.1 := hw0
    have t1 : DataW.trod enc Try.prog w 0 (fun _ => true) held n 23 ((cs.drop 1).take (Try.prog.cellsOf 23)) = some y1 := hf 1 _ rfl
    rw [c23] at t1
    obtain ⟨a1, hK1, hw1, ho1⟩ := (opens_slice (P := Try.prog) Try.underlying23 (by kernel_rfl) (opens_string (P := Try.prog) Try.underlying9 (by kernel_rfl))).2 enc w held n _ y1 t1
    replace hw1 : ((a1.map (fun z => (z.size + 1))).sum + 1) ≤ Rows.uptoBulk y1.1 := hw1
    have t2 : DataW.trod enc Try.prog w 0 (fun _ => true) held n 23 ((cs.drop 2).take (Try.prog.cellsOf 23)) = some y2 := hf 2 _ rfl
    rw [c23] at t2
    obtain ⟨a2, hK2, hw2, ho2⟩ := (opens_slice (P := Try.prog) Try.underlying23 (by kernel_rfl) (opens_string (P := Try.prog) Try.underlying9 (by kernel_rfl))).2 enc w held n _ y2 t2
    replace hw2 : ((a2.map (fun z => (z.size + 1))).sum + 1) ≤ Rows.uptoBulk y2.1 := hw2
    have t3 : DataW.trod enc Try.prog w 0 (fun _ => true) held n 3 ((cs.drop 3).take (Try.prog.cellsOf 3)) = some y3 := hf 3 _ rfl
    rw [c3] at t3
    obtain ⟨a3, hK3, hw3, ho3⟩ := (opens_int (P := Try.prog) Try.underlying3 (by kernel_rfl)).2 enc w held n _ y3 t3
    replace hw3 : 1 ≤ Rows.uptoBulk y3.1 := hw3
    have t4 : DataW.trod enc Try.prog w 0 (fun _ => true) held n 3 ((cs.drop 4).take (Try.prog.cellsOf 3)) = some y4 := hf 4 _ rfl
    rw [c3] at t4
    obtain ⟨a4, hK4, hw4, ho4⟩ := (opens_int (P := Try.prog) Try.underlying3 (by kernel_rfl)).2 enc w held n _ y4 t4
    replace hw4 : 1 ≤ Rows.uptoBulk y4.1 := hw4
    have e_ : (cs.drop 4).take 1 = cs.drop 4 := List.take_of_length_le (by rw [List.length_drop, hl]; exact Nat.le_refl _)
    have hcs : cs = (cs.drop 0).take 1 ++ ((cs.drop 1).take 1 ++ ((cs.drop 2).take 1 ++ ((cs.drop 3).take 1 ++ ((cs.drop 4).take 1)))) := by
      rw [e_]
      rw [show (cs.drop 3).take 1 ++ cs.drop 4 = cs.drop 3 from take_drop_one cs 3 1]
      rw [show (cs.drop 2).take 1 ++ cs.drop 3 = cs.drop 2 from take_drop_one cs 2 1]
      rw [show (cs.drop 1).take 1 ++ cs.drop 2 = cs.drop 1 from take_drop_one cs 1 1]
      rw [show (cs.drop 0).take 1 ++ cs.drop 1 = cs.drop 0 from take_drop_one cs 0 1]
      rfl
    refine ⟨⟨a0, a1, a2, a3, a4⟩, ⟨_, _, hcs, hK0, ⟨_, _, rfl, hK1, ⟨_, _, rfl, hK2, ⟨_, _, rfl, hK3, hK4⟩⟩⟩⟩, ?_, ho0, ho1, ho2, ho3, ho4⟩
    simp only [Rows.uptoBulk, Rows.uptoBulkAll, List.map_cons, List.map_nil, wt25]
    omega
def wt72 (x : S72) : Nat := 1 + (x.f1.size + 1) + 1
def ok72 (x : S72) : Prop := ((Lit.int .i64 x.f0).wf = true) ∧ (True)
set_option maxRecDepth 10000 in
theorem opens72 : Opens Try.prog 72 k72 wt72 ok72 := by
  refine Opens.mk (by kernel_rfl) fun enc w held fuel cs x h => ?_
  obtain ⟨xs, n, _, rfl, hl, hlen, hf⟩ := DataW.trod_struct Try.underlying72 h
  have c3 : Try.prog.cellsOf 3 = 1 := by kernel_rfl
  have c9 : Try.prog.cellsOf 9 = 1 := by kernel_rfl
  have ct : Try.prog.cellsOf 72 = 2 := by kernel_rfl
  rw [ct] at hl
  match xs, hlen with
  | [y0, y1], _ =>
    have t0 : DataW.trod enc Try.prog w 0 (fun _ => true) held n 3 ((cs.drop 0).take (Try.prog.cellsOf 3)) = some y0 := hf 0 _ rfl
    rw [c3] at t0
    obtain ⟨a0, hK0, hw0, ho0⟩ := (opens_int (P := Try.prog) Try.underlying3 (by kernel_rfl)).2 enc w held n _ y0 t0
    replace hw0 : 1 ≤ Rows.uptoBulk y0.1 := hw0
    have t1 : DataW.trod enc Try.prog w 0 (fun _ => true) held n 9 ((cs.drop 1).take (Try.prog.cellsOf 9)) = some y1 := hf 1 _ rfl
    rw [c9] at t1
    obtain ⟨a1, hK1, hw1, ho1⟩ := (opens_string (P := Try.prog) Try.underlying9 (by kernel_rfl)).2 enc w held n _ y1 t1
    replace hw1 : (a1.size + 1) ≤ Rows.uptoBulk y1.1 := hw1
    have e_ : (cs.drop 1).take 1 = cs.drop 1 := List.take_of_length_le (by rw [List.length_drop, hl]; exact Nat.le_refl _)
    have hcs : cs = (cs.drop 0).take 1 ++ ((cs.drop 1).take 1) := by
      rw [e_]
      rw [show (cs.drop 0).take 1 ++ cs.drop 1 = cs.drop 0 from take_drop_one cs 0 1]
      rfl
    refine ⟨⟨a0, a1⟩, ⟨_, _, hcs, hK0, hK1⟩, ?_, ho0, ho1⟩
    simp only [Rows.uptoBulk, Rows.uptoBulkAll, List.map_cons, List.map_nil, wt72]
    omega
def wt41 (x : S41) : Nat := 1 + 1 + 1 + 1 + (x.f4.size + 1) + ((x.f5.map wt72).sum + 1) + 1
def ok41 (x : S41) : Prop := ((Lit.int .i64 x.f0).wf = true) ∧ ((Lit.int .i64 x.f1).wf = true) ∧ ((Lit.int .i64 x.f2).wf = true) ∧ ((Lit.int .i64 x.f3).wf = true) ∧ (True) ∧ (∀ z_ ∈ x.f5, ok72 z_)
set_option maxRecDepth 10000 in
theorem opens41 : Opens Try.prog 41 k41 wt41 ok41 := by
  refine Opens.mk (by kernel_rfl) fun enc w held fuel cs x h => ?_
  obtain ⟨xs, n, _, rfl, hl, hlen, hf⟩ := DataW.trod_struct Try.underlying41 h
  have c3 : Try.prog.cellsOf 3 = 1 := by kernel_rfl
  have c9 : Try.prog.cellsOf 9 = 1 := by kernel_rfl
  have c39 : Try.prog.cellsOf 39 = 1 := by kernel_rfl
  have ct : Try.prog.cellsOf 41 = 6 := by kernel_rfl
  rw [ct] at hl
  match xs, hlen with
  | [y0, y1, y2, y3, y4, y5], _ =>
    have t0 : DataW.trod enc Try.prog w 0 (fun _ => true) held n 3 ((cs.drop 0).take (Try.prog.cellsOf 3)) = some y0 := hf 0 _ rfl
    rw [c3] at t0
    obtain ⟨a0, hK0, hw0, ho0⟩ := (opens_int (P := Try.prog) Try.underlying3 (by kernel_rfl)).2 enc w held n _ y0 t0
    replace hw0 : 1 ≤ Rows.uptoBulk y0.1 := hw0
    have t1 : DataW.trod enc Try.prog w 0 (fun _ => true) held n 3 ((cs.drop 1).take (Try.prog.cellsOf 3)) = some y1 := hf 1 _ rfl
    rw [c3] at t1
    obtain ⟨a1, hK1, hw1, ho1⟩ := (opens_int (P := Try.prog) Try.underlying3 (by kernel_rfl)).2 enc w held n _ y1 t1
    replace hw1 : 1 ≤ Rows.uptoBulk y1.1 := hw1
    have t2 : DataW.trod enc Try.prog w 0 (fun _ => true) held n 3 ((cs.drop 2).take (Try.prog.cellsOf 3)) = some y2 := hf 2 _ rfl
    rw [c3] at t2
    obtain ⟨a2, hK2, hw2, ho2⟩ := (opens_int (P := Try.prog) Try.underlying3 (by kernel_rfl)).2 enc w held n _ y2 t2
    replace hw2 : 1 ≤ Rows.uptoBulk y2.1 := hw2
    have t3 : DataW.trod enc Try.prog w 0 (fun _ => true) held n 3 ((cs.drop 3).take (Try.prog.cellsOf 3)) = some y3 := hf 3 _ rfl
    rw [c3] at t3
    obtain ⟨a3, hK3, hw3, ho3⟩ := (opens_int (P := Try.prog) Try.underlying3 (by kernel_rfl)).2 enc w held n _ y3 t3
    replace hw3 : 1 ≤ Rows.uptoBulk y3.1 := hw3
    have t4 : DataW.trod enc Try.prog w 0 (fun _ => true) held n 9 ((cs.drop 4).take (Try.prog.cellsOf 9)) = some y4 := hf 4 _ rfl
    rw [c9] at t4
    obtain ⟨a4, hK4, hw4, ho4⟩ := (opens_string (P := Try.prog) Try.underlying9 (by kernel_rfl)).2 enc w held n _ y4 t4
    replace hw4 : (a4.size + 1) ≤ Rows.uptoBulk y4.1 := hw4
    have t5 : DataW.trod enc Try.prog w 0 (fun _ => true) held n 39 ((cs.drop 5).take (Try.prog.cellsOf 39)) = some y5 := hf 5 _ rfl
    rw [c39] at t5
    obtain ⟨a5, hK5, hw5, ho5⟩ := (opens_slice (P := Try.prog) Try.underlying39 (by kernel_rfl) opens72).2 enc w held n _ y5 t5
    replace hw5 : ((a5.map wt72).sum + 1) ≤ Rows.uptoBulk y5.1 := hw5
    have e_ : (cs.drop 5).take 1 = cs.drop 5 := List.take_of_length_le (by rw [List.length_drop, hl]; exact Nat.le_refl _)
    have hcs : cs = (cs.drop 0).take 1 ++ ((cs.drop 1).take 1 ++ ((cs.drop 2).take 1 ++ ((cs.drop 3).take 1 ++ ((cs.drop 4).take 1 ++ ((cs.drop 5).take 1))))) := by
      rw [e_]
      rw [show (cs.drop 4).take 1 ++ cs.drop 5 = cs.drop 4 from take_drop_one cs 4 1]
      rw [show (cs.drop 3).take 1 ++ cs.drop 4 = cs.drop 3 from take_drop_one cs 3 1]
      rw [show (cs.drop 2).take 1 ++ cs.drop 3 = cs.drop 2 from take_drop_one cs 2 1]
      rw [show (cs.drop 1).take 1 ++ cs.drop 2 = cs.drop 1 from take_drop_one cs 1 1]
      rw [show (cs.drop 0).take 1 ++ cs.drop 1 = cs.drop 0 from take_drop_one cs 0 1]
      rfl
    refine ⟨⟨a0, a1, a2, a3, a4, a5⟩, ⟨_, _, hcs, hK0, ⟨_, _, rfl, hK1, ⟨_, _, rfl, hK2, ⟨_, _, rfl, hK3, ⟨_, _, rfl, hK4, hK5⟩⟩⟩⟩⟩, ?_, ho0, ho1, ho2, ho3, ho4, ho5⟩
    simp only [Rows.uptoBulk, Rows.uptoBulkAll, List.map_cons, List.map_nil, wt41]
    omega
end Go.Proofs.Ytkoagpnoaibdjaa.Ext
