/-
 A parameter is opened as what its kind says (rows of structs, structs of rows, ..), with a bound of its weight by the reading's bulk.
-/
import Derived.Test.YtecjoofjiockkaaGreatDoorRows
import Derived.Test.YtecjoofjiockkaaGreatDoorWWords
import Derived.ChangeArms
import Derived.DataReads
import Derived.WideShapes
import Derived.ChangeShapes
import Derived.Test.YtecjoofjiockkaaGreatDoorPp0
import Derived.KernelRfl
namespace Go.Proofs.YtecjoofjiockkaaGreatDoor.Ext
open Go.ChangeShapes Go.WideShapes Go.RowKit Go.Proofs.YtecjoofjiockkaaGreatDoorW.PrintWords
def Opens {α : Type} (P : Program) (t : TypeId) (d : Kd α) (wt : α → Nat) (ok : α → Prop) : Prop :=
 d.sz = P.cellsOf t ∧ ∀ {H : Type} (enc : TypeId × Value → H) (w : World) (held : Bool) (fuel : Nat) (cs : List Value) (x : DataW H × List MemPlace),
  DataW.trod enc P w 0 (fun _ => true) held fuel t cs = some x → ∃ a, d.K w a cs ∧ wt a ≤ Rows.uptoBulk x.1 ∧ ok a
theorem Opens.mk {α : Type} {P : Program} {t : TypeId} {d : Kd α} {wt : α → Nat} {ok : α → Prop} (h1 : d.sz = P.cellsOf t)
  (h2 : ∀ {H : Type} (enc : TypeId × Value → H) (w : World) (held : Bool) (fuel : Nat) (cs : List Value) (x : DataW H × List MemPlace),
   DataW.trod enc P w 0 (fun _ => true) held fuel t cs = some x → ∃ a, d.K w a cs ∧ wt a ≤ Rows.uptoBulk x.1 ∧ ok a) : Opens P t d wt ok := ⟨h1, h2⟩
theorem opens_int {P : Program} {t : TypeId} {k : IntKind} (ht : P.underlying t = some (.int k)) (hc : P.cellsOf t = 1) : Opens P t (Kd.int k) (fun _ => 1) (fun n => (Lit.int k n).wf = true) := by
 refine Opens.mk hc.symm fun enc w held fuel cs x h => ?_
 obtain ⟨n, rfl, rfl, hw⟩ := DataW.trod_int ht h
 exact ⟨n, rfl, by simp [Rows.uptoBulk], hw⟩
theorem opens_string {P : Program} {t : TypeId} (ht : P.underlying t = some .string) (hc : P.cellsOf t = 1) : Opens P t Kd.string (fun s => s.size + 1) (fun _ => True) := by
 refine Opens.mk hc.symm fun enc w held fuel cs x h => ?_
 obtain ⟨s, rfl, rfl, hs⟩ := DataW.trod_string ht h
 refine ⟨s, rfl, ?_, trivial⟩
 simp only [Rows.uptoBulk, Array.length_toList]
 exact Nat.le_refl _
theorem addr_add_add (a : Addr) (i j : Nat) : (a.add i).add j = a.add (i + j) := by
 cases a with
 | mk b o k =>
  unfold Addr.add
  by_cases hi : i = 0
  ·subst hi; simp
  ·by_cases hj : j = 0
   ·subst hj; simp [hi]
   ·simp [hi, hj, Nat.add_assoc]
theorem bulkAll_snoc {H : Type} (a : List (DataW H)) (b : DataW H) : Rows.uptoBulkAll (a ++ [b]) = Rows.uptoBulkAll a + Rows.uptoBulk b := by
 induction a with
 | nil => simp [Rows.uptoBulkAll]
 | cons x a ih => simp only [List.cons_append, Rows.uptoBulkAll, ih]; omega
theorem opens_slice {α : Type} {P : Program} {t e : TypeId} {d : Kd α} {wt : α → Nat} {ok : α → Prop} (ht : P.underlying t = some (.slice e)) (hc : P.cellsOf t = 1) (hd : Opens P e d wt ok) :
  Opens P t (Kd.slice e d) (fun l => (l.map wt).sum + 1) (fun l => ∀ x ∈ l, ok x) := by
 refine Opens.mk hc.symm fun {H} enc w held fuel cs x h => ?_
 rcases DataW.trod_slice ht h with ⟨rfl, rfl⟩ | ⟨a, len, cap, elems, rest, n, _, rfl, rfl, hb, hl, hm, hlen, hel, -, -⟩
 ·exact ⟨[], ⟨none, 0, rfl, Nat.le_refl _, Kd.C_nil d w⟩, by simp [Rows.uptoBulk], by simp⟩
 ·obtain ⟨hsz, hop⟩ := hd
  have each : ∀ i y, elems[i]? = some y → ∃ p c, c.length = d.sz ∧ d.K w p c ∧ (∀ j u, c[j]? = some u → w.cell? (a.add (i * d.sz + j)) = some u) ∧ wt p ≤ Rows.uptoBulk y.1 ∧ ok p := by
   intro i y hy
   have hi : i < len := by
    have := (List.getElem?_eq_some_iff.1 hy).1
    omega
   have hb' := hel i hi
   rw [hy, Option.bind_eq_some_iff] at hb'
   obtain ⟨cs', hcs, hy'⟩ := hb'
   obtain ⟨p, hK, hw, ho⟩ := hop enc w held n cs' y hy'
   obtain ⟨_, hcl, hcc⟩ := World.cells?_some hcs
   refine ⟨p, cs', by rw [hcl, hsz], hK, fun j u hj => ?_, hw, ho⟩
   have hj' : j < P.cellsOf e := by
    have := (List.getElem?_eq_some_iff.1 hj).1
    omega
   have := hcc j hj'
   rw [hj] at this
   rw [hsz, ← this]
   exact congrArg w.cell? (addr_add_add _ _ _).symm
  have grow : ∀ m, m ≤ elems.length → ∃ l : List α, l.length = m ∧ (∀ j p, l[j]? = some p → ∃ c, c.length = d.sz ∧ d.K w p c ∧ ∀ i u, c[i]? = some u → w.cell? (a.add (j * d.sz + i)) = some u) ∧
    (l.map wt).sum ≤ Rows.uptoBulkAll ((elems.take m).map (·.1)) ∧ ∀ x ∈ l, ok x := by
   intro m
   induction m with
   | zero => intro _; exact ⟨[], rfl, fun j p hj => by simp at hj, by simp, by simp⟩
   | succ m ih =>
    intro hm'
    obtain ⟨l, h1, h2, h3, h4⟩ := ih (by omega)
    have hlt : m < elems.length := by omega
    obtain ⟨p, c, hcl, hK, hcc, hw, ho⟩ := each m _ (List.getElem?_eq_getElem hlt)
    refine ⟨l ++ [p], by simp [h1], fun j q hj => ?_, ?_, ?_⟩
    ·rcases Nat.lt_or_ge j l.length with hjl | hjl
     ·rw [List.getElem?_append_left hjl] at hj
      exact h2 j q hj
     ·have hj' : j = l.length := by
       have := (List.getElem?_eq_some_iff.1 hj).1
       simp at this
       omega
      subst hj'
      have : p = q := by simpa using hj
      subst this
      rw [h1]
      exact ⟨c, hcl, hK, hcc⟩
    ·rw [List.take_succ_eq_append_getElem hlt]
     simp only [List.map_append, List.map_cons, List.map_nil, bulkAll_snoc, List.sum_append, List.sum_cons, List.sum_nil]
     omega
    ·intro q hq
     rcases List.mem_append.1 hq with hq | hq
     ·exact h4 q hq
     ·rw [List.mem_singleton.1 hq]; exact ho
  obtain ⟨l, h1, h2, h3, h4⟩ := grow elems.length (Nat.le_refl _)
  rw [List.take_length] at h3
  refine ⟨l, ⟨some a, cap, ?_, by omega, rfl, ?_, fun _ => ⟨a, rfl, h2⟩⟩, ?_, h4⟩
  ·rw [h1, hlen]
  ·unfold maxLen at hm; omega
  ·simp only [Rows.uptoBulk]
   omega
theorem take_drop_one {α : Type} (l : List α) (a n : Nat) : ((l.drop a).take n) ++ l.drop (a + n) = l.drop a := by
 rw [← List.drop_drop, List.take_append_drop]
end Go.Proofs.YtecjoofjiockkaaGreatDoor.Ext
namespace Go.Proofs.YtecjoofjiockkaaGreatDoor.Ext
open Go.ChangeShapes Go.WideShapes Go.RowKit Go.Proofs.YtecjoofjiockkaaGreatDoorW.PrintWords Go.Proofs.YtecjoofjiockkaaGreatDoor.Pp
def wt53 (x : S53) : Nat := 1 + (x.f1.size + 1) + 1
def ok53 (x : S53) : Prop := ((Lit.int .i64 x.f0).wf = true) ∧ (True)
set_option maxRecDepth 10000 in
theorem opens53 : Opens Tryz.prog 53 k53 wt53 ok53 := by
 refine Opens.mk (by kernel_rfl) fun enc w held fuel cs x h => ?_
 obtain ⟨xs, n, _, rfl, hl, hlen, hf⟩ := DataW.trod_struct Tryz.underlying53 h
 have c3 : Tryz.prog.cellsOf 3 = 1 := by kernel_rfl
 have c9 : Tryz.prog.cellsOf 9 = 1 := by kernel_rfl
 have ct : Tryz.prog.cellsOf 53 = 2 := by kernel_rfl
 rw [ct] at hl
 match xs, hlen with
 | [y0, y1], _ =>
  have t0 : DataW.trod enc Tryz.prog w 0 (fun _ => true) held n 3 ((cs.drop 0).take (Tryz.prog.cellsOf 3)) = some y0 := hf 0 _ rfl
  rw [c3] at t0
  obtain ⟨a0, hK0, hw0, ho0⟩ := (opens_int (P := Tryz.prog) Tryz.underlying3 (by kernel_rfl)).2 enc w held n _ y0 t0
  replace hw0 : 1 ≤ Rows.uptoBulk y0.1 := hw0
  have t1 : DataW.trod enc Tryz.prog w 0 (fun _ => true) held n 9 ((cs.drop 1).take (Tryz.prog.cellsOf 9)) = some y1 := hf 1 _ rfl
  rw [c9] at t1
  obtain ⟨a1, hK1, hw1, ho1⟩ := (opens_string (P := Tryz.prog) Tryz.underlying9 (by kernel_rfl)).2 enc w held n _ y1 t1
  replace hw1 : (a1.size + 1) ≤ Rows.uptoBulk y1.1 := hw1
  have e_ : (cs.drop 1).take 1 = cs.drop 1 := List.take_of_length_le (by rw [List.length_drop, hl]; exact Nat.le_refl _)
  have hcs : cs = (cs.drop 0).take 1 ++ ((cs.drop 1).take 1) := by
   rw [e_]
   rw [show (cs.drop 0).take 1 ++ cs.drop 1 = cs.drop 0 from take_drop_one cs 0 1]
   rfl
  refine ⟨⟨a0, a1⟩, ⟨_, _, hcs, hK0, hK1⟩, ?_, ho0, ho1⟩
  simp only [Rows.uptoBulk, Rows.uptoBulkAll, List.map_cons, List.map_nil, wt53]
  omega
def wt29 (x : S29) : Nat := 1 + 1 + 1 + 1 + (x.f4.size + 1) + ((x.f5.map wt53).sum + 1) + 1
def ok29 (x : S29) : Prop := ((Lit.int .i64 x.f0).wf = true) ∧ ((Lit.int .i64 x.f1).wf = true) ∧ ((Lit.int .i64 x.f2).wf = true) ∧ ((Lit.int .i64 x.f3).wf = true) ∧ (True) ∧ (∀ z_ ∈ x.f5, ok53 z_)
set_option maxRecDepth 10000 in
theorem opens29 : Opens Tryz.prog 29 k29 wt29 ok29 := by
 refine Opens.mk (by kernel_rfl) fun enc w held fuel cs x h => ?_
 obtain ⟨xs, n, _, rfl, hl, hlen, hf⟩ := DataW.trod_struct Tryz.underlying29 h
 have c3 : Tryz.prog.cellsOf 3 = 1 := by kernel_rfl
 have c9 : Tryz.prog.cellsOf 9 = 1 := by kernel_rfl
 have c27 : Tryz.prog.cellsOf 27 = 1 := by kernel_rfl
 have ct : Tryz.prog.cellsOf 29 = 6 := by kernel_rfl
 rw [ct] at hl
 match xs, hlen with
 | [y0, y1, y2, y3, y4, y5], _ =>
  have t0 : DataW.trod enc Tryz.prog w 0 (fun _ => true) held n 3 ((cs.drop 0).take (Tryz.prog.cellsOf 3)) = some y0 := hf 0 _ rfl
  rw [c3] at t0
  obtain ⟨a0, hK0, hw0, ho0⟩ := (opens_int (P := Tryz.prog) Tryz.underlying3 (by kernel_rfl)).2 enc w held n _ y0 t0
  replace hw0 : 1 ≤ Rows.uptoBulk y0.1 := hw0
  have t1 : DataW.trod enc Tryz.prog w 0 (fun _ => true) held n 3 ((cs.drop 1).take (Tryz.prog.cellsOf 3)) = some y1 := hf 1 _ rfl
  rw [c3] at t1
  obtain ⟨a1, hK1, hw1, ho1⟩ := (opens_int (P := Tryz.prog) Tryz.underlying3 (by kernel_rfl)).2 enc w held n _ y1 t1
  replace hw1 : 1 ≤ Rows.uptoBulk y1.1 := hw1
  have t2 : DataW.trod enc Tryz.prog w 0 (fun _ => true) held n 3 ((cs.drop 2).take (Tryz.prog.cellsOf 3)) = some y2 := hf 2 _ rfl
  rw [c3] at t2
  obtain ⟨a2, hK2, hw2, ho2⟩ := (opens_int (P := Tryz.prog) Tryz.underlying3 (by kernel_rfl)).2 enc w held n _ y2 t2
  replace hw2 : 1 ≤ Rows.uptoBulk y2.1 := hw2
  have t3 : DataW.trod enc Tryz.prog w 0 (fun _ => true) held n 3 ((cs.drop 3).take (Tryz.prog.cellsOf 3)) = some y3 := hf 3 _ rfl
  rw [c3] at t3
  obtain ⟨a3, hK3, hw3, ho3⟩ := (opens_int (P := Tryz.prog) Tryz.underlying3 (by kernel_rfl)).2 enc w held n _ y3 t3
  replace hw3 : 1 ≤ Rows.uptoBulk y3.1 := hw3
  have t4 : DataW.trod enc Tryz.prog w 0 (fun _ => true) held n 9 ((cs.drop 4).take (Tryz.prog.cellsOf 9)) = some y4 := hf 4 _ rfl
  rw [c9] at t4
  obtain ⟨a4, hK4, hw4, ho4⟩ := (opens_string (P := Tryz.prog) Tryz.underlying9 (by kernel_rfl)).2 enc w held n _ y4 t4
  replace hw4 : (a4.size + 1) ≤ Rows.uptoBulk y4.1 := hw4
  have t5 : DataW.trod enc Tryz.prog w 0 (fun _ => true) held n 27 ((cs.drop 5).take (Tryz.prog.cellsOf 27)) = some y5 := hf 5 _ rfl
  rw [c27] at t5
  obtain ⟨a5, hK5, hw5, ho5⟩ := (opens_slice (P := Tryz.prog) Tryz.underlying27 (by kernel_rfl) opens53).2 enc w held n _ y5 t5
  replace hw5 : ((a5.map wt53).sum + 1) ≤ Rows.uptoBulk y5.1 := hw5
  have e_ : (cs.drop 5).take 1 = cs.drop 5 := List.take_of_length_le (by rw [List.length_drop, hl]; exact Nat.le_refl _)
  have hcs : cs = (cs.drop 0).take 1 ++ ((cs.drop 1).take 1 ++ ((cs.drop 2).take 1 ++ ((cs.drop 3).take 1 ++ ((cs.drop 4).take 1 ++ ((cs.drop 5).take 1))))) := by
   rw [e_]
   rw [show (cs.drop 4).take 1 ++ cs.drop 5 = cs.drop 4 from take_drop_one cs 4 1]
   rw [show (cs.drop 3).take 1 ++ cs.drop 4 = cs.drop 3 from take_drop_one cs 3 1]
   rw [show (cs.drop 2).take 1 ++ cs.drop 3 = cs.drop 2 from take_drop_one cs 2 1]
   rw [show (cs.drop 1).take 1 ++ cs.drop 2 = cs.drop 1 from take_drop_one cs 1 1]
   rw [show (cs.drop 0).take 1 ++ cs.drop 1 = cs.drop 0 from take_drop_one cs 0 1]
   rfl
  refine ⟨⟨a0, a1, a2, a3, a4, a5⟩, ⟨_, _, hcs, hK0, ⟨_, _, rfl, hK1, ⟨_, _, rfl, hK2, ⟨_, _, rfl, hK3, ⟨_, _, rfl, hK4, hK5⟩⟩⟩⟩⟩, ?_, ho0, ho1, ho2, ho3, ho4, ho5⟩
  simp only [Rows.uptoBulk, Rows.uptoBulkAll, List.map_cons, List.map_nil, wt29]
  omega
end Go.Proofs.YtecjoofjiockkaaGreatDoor.Ext
