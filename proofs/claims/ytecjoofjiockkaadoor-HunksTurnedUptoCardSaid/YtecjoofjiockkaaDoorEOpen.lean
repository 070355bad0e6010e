/-
  A parameter is opened as what its kind says (rows of structs, structs of rows, ..), with a bound of its weight by the reading's bulk.
-/
import Derived.Test.YtecjoofjiockkaaDoorRows
import Derived.Test.YtecjoofjiockkaaDoorWWords
import Derived.ChangeArms
import Derived.DataReads
import Derived.WideShapes
import Derived.ChangeShapes
namespace Go.Proofs.YtecjoofjiockkaaDoor.Ext
open Go.ChangeShapes Go.WideShapes Go.RowKit Go.Proofs.YtecjoofjiockkaaDoorW.PrintWords
def Opens {α : Type} (P : Program) (t : TypeId) (d : Kd α) (wt : α → Nat) (ok : α → Prop) : Prop :=
  d.sz = P.cellsOf t ∧ ∀ {H : Type} (enc : TypeId × Value → H) (w : World) (held : Bool) (fuel : Nat) (cs : List Value) (x : DataW H × List MemPlace),
    DataW.trod enc P w 0 (fun _ => true) held fuel t cs = some x → ∃ a, d.K w a cs ∧ wt a ≤ Rows.uptoBulk x.1 ∧ ok a
theorem Opens.mk {α : Type} {P : Program} {t : TypeId} {d : Kd α} {wt : α → Nat} {ok : α → Prop} (h1 : d.sz = P.cellsOf t)
    (h2 : ∀ {H : Type} (enc : TypeId × Value → H) (w : World) (held : Bool) (fuel : Nat) (cs : List Value) (x : DataW H × List MemPlace),
      DataW.trod enc P w 0 (fun _ => true) held fuel t cs = some x → ∃ a, d.K w a cs ∧ wt a ≤ Rows.uptoBulk x.1 ∧ ok a) : Opens P t d wt ok := ⟨h1, h2⟩
theorem opens_int {P : Program} {t : TypeId} {k : IntKind} (ht : P.underlying t = some (.int k)) (hc : P.cellsOf t = 1) : Opens P t (Kd.int k) (fun _ => 1) (fun n => (Lit.int k n).wf = true) := by
  refine Opens.mk hc.symm fun enc w held fuel cs x h => ?_
  obtain ⟨n, rfl, rfl, hw⟩ := DataW.trod_int ht h
  exact ⟨n, rfl, by simp [Rows.uptoBulk], hw⟩
theorem opens_string {P : Program} {t : TypeId} (ht : P.underlying t = some .string) (hc : P.cellsOf t = 1) : Opens P t Kd.string (fun s => s.size + 1) (fun _ => True) := by
  refine Opens.mk hc.symm fun enc w held fuel cs x h => ?_
  obtain ⟨s, rfl, rfl, hs⟩ := DataW.trod_string ht h
  refine ⟨s, rfl, ?_, trivial⟩
  simp only [Rows.uptoBulk, Array.length_toList]
  exact Nat.le_refl _
theorem addr_add_add (a : Addr) (i j : Nat) : (a.add i).add j = a.add (i + j) := by
  cases a with
  | mk b o k =>
    unfold Addr.add
    by_cases hi : i = 0
    · subst hi; simp
    · by_cases hj : j = 0
      · subst hj; simp [hi]
      · simp [hi, hj, Nat.add_assoc]
theorem bulkAll_snoc {H : Type} (a : List (DataW H)) (b : DataW H) : Rows.uptoBulkAll (a ++ [b]) = Rows.uptoBulkAll a + Rows.uptoBulk b := by
  induction a with
  | nil => simp [Rows.uptoBulkAll]
  | cons x a ih => simp only [List.cons_append, Rows.uptoBulkAll, ih]; omega
theorem opens_slice {α : Type} {P : Program} {t e : TypeId} {d : Kd α} {wt : α → Nat} {ok : α → Prop} (ht : P.underlying t = some (.slice e)) (hc : P.cellsOf t = 1) (hd : Opens P e d wt ok) :
    Opens P t (Kd.slice e d) (fun l => (l.map wt).sum + 1) (fun l => ∀ x ∈ l, ok x) := by
  refine Opens.mk hc.symm fun {H} enc w held fuel cs x h => ?_
  rcases DataW.trod_slice ht h with ⟨rfl, rfl⟩ | ⟨a, len, cap, elems, rest, n, _, rfl, rfl, hb, hl, hm, hlen, hel, -, -⟩
  · exact ⟨[], ⟨none, 0, rfl, Nat.le_refl _, Kd.C_nil d w⟩, by simp [Rows.uptoBulk], by simp⟩
  · obtain ⟨hsz, hop⟩ := hd
    have each : ∀ i y, elems[i]? = some y → ∃ p c, c.length = d.sz ∧ d.K w p c ∧ (∀ j u, c[j]? = some u → w.cell? (a.add (i * d.sz + j)) = some u) ∧ wt p ≤ Rows.uptoBulk y.1 ∧ ok p := by
      intro i y hy
      have hi : i < len := by
        have := (List.getElem?_eq_some_iff.1 hy).1
        omega
      have hb' := hel i hi
      rw [hy, Option.bind_eq_some_iff] at hb'
      obtain ⟨cs', hcs, hy'⟩ := hb'
      obtain ⟨p, hK, hw, ho⟩ := hop enc w held n cs' y hy'
      obtain ⟨_, hcl, hcc⟩ := World.cells?_some hcs
      refine ⟨p, cs', by rw [hcl, hsz], hK, fun j u hj => ?_, hw, ho⟩
      have hj' : j < P.cellsOf e := by
        have := (List.getElem?_eq_some_iff.1 hj).1
        omega
      have := hcc j hj'
      rw [hj] at this
      rw [hsz, ← this]
      exact congrArg w.cell? (addr_add_add _ _ _).symm
    have grow : ∀ m, m ≤ elems.length → ∃ l : List α, l.length = m ∧ (∀ j p, l[j]? = some p → ∃ c, c.length = d.sz ∧ d.K w p c ∧ ∀ i u, c[i]? = some u → w.cell? (a.add (j * d.sz + i)) = some u) ∧
        (l.map wt).sum ≤ Rows.uptoBulkAll ((elems.take m).map (·.1)) ∧ ∀ x ∈ l, ok x := by
      intro m
      induction m with
      | zero => intro _; exact ⟨[], rfl, fun j p hj => by simp at hj, by simp, by simp⟩
      | succ m ih =>
        intro hm'
        obtain ⟨l, h1, h2, h3, h4⟩ := ih (by omega)
        have hlt : m < elems.length := by omega
        obtain ⟨p, c, hcl, hK, hcc, hw, ho⟩ := each m _ (List.getElem?_eq_getElem hlt)
        refine ⟨l ++ [p], by simp [h1], fun j q hj => ?_, ?_, ?_⟩
        · rcases Nat.lt_or_ge j l.length with hjl | hjl
          · rw [List.getElem?_append_left hjl] at hj
            exact h2 j q hj
          · have hj' : j = l.length := by
              have := (List.getElem?_eq_some_iff.1 hj).1
              simp at this
              omega
            subst hj'
            have : p = q := by simpa using hj
            subst this
            rw [h1]
            exact ⟨c, hcl, hK, hcc⟩
        · rw [List.take_succ_eq_append_getElem hlt]
          simp only [List.map_append, List.map_cons, List.map_nil, bulkAll_snoc, List.sum_append, List.sum_cons, List.sum_nil]
          omega
        · intro q hq
          rcases List.mem_append.1 hq with hq | hq
          · exact h4 q hq
          · rw [List.mem_singleton.1 hq]; exact ho
    obtain ⟨l, h1, h2, h3, h4⟩ := grow elems.length (Nat.le_refl _)
    rw [List.take_length] at h3
    refine ⟨l, ⟨some a, cap, ?_, by omega, rfl, ?_, fun _ => ⟨a, rfl, h2⟩⟩, ?_, h4⟩
    · rw [h1, hlen]
    · unfold maxLen at hm; omega
    · simp only [Rows.uptoBulk]
      omega
theorem take_drop_one {α : Type} (l : List α) (a n : Nat) : ((l.drop a).take n) ++ l.drop (a + n) = l.drop a := by
  rw [← List.drop_drop, List.take_append_drop]
end Go.Proofs.YtecjoofjiockkaaDoor.Ext
