/-
  A row of bytes of the call's own that is told as a text: one that was appended to, or what '[]byte("..")' of a constant has laid (its block bears a mark; an append of one byte or more leaves it for a new one).
-/
import Derived.Test.YtfempodohmhhlaaDoorEBase
import Derived.Test.YtfempodohmhhlaaDoorWLast
import Derived.Lib.AppendStr
import Derived.Lib.SlBytesConst
import Derived.Laws.IdiomCopy
namespace Go.Proofs.YtfempodohmhhlaaDoor.Ext
open Go.RowKit Go.Proofs.YtfempodohmhhlaaDoorW.PrintWords Go.Proofs.YtfempodohmhhlaaDoorW.PrintLast
theorem u8_info : (Tryd.prog.info? 5).map (fun i => (i.zero, i.size, i.bytes)) = some (some (.int .u8 0), 1, 1) := by kernel_rfl
def Marked (B : Nat) (v : Value) (s : ByteArray) (w : World) : Prop :=
  ∃ g, B ≤ g ∧ v = .slice (some ⟨g, 0, none⟩) s.size s.size ∧ ∃ cells fr, w.heap[g]? = some (.cells cells 5 fr) ∧ cells.toList = Lib.strCells s
def BRow (B : Nat) (v : Value) (s : ByteArray) (w : World) : Prop := w.ownsRow B 5 1 v s.size (Lib.strCells s) ∨ Marked B v s w
theorem BRow.below {B : Nat} {v : Value} {s : ByteArray} {w w' : World} (h : BRow B v s w) (hb : Below w.heap.size w w') : BRow B v s w' := by
  rcases h with h | ⟨g, hg, hv, cells, fr, hh, hc⟩
  · exact .inl (own_move h (fun k hk => hb.block k (own_lt h k hk)))
  · refine .inr ⟨g, hg, hv, cells, fr, (hb.block g ?_).trans hh, hc⟩
    rcases Nat.lt_or_ge g w.heap.size with h' | h'
    · exact h'
    · simp [Array.getElem?_eq_none h'] at hh
theorem bytesOf_cells (s : ByteArray) : (bytesOf s).map (Value.int .u8) = Lib.strCells s := by
  unfold bytesOf Lib.strCells
  rw [List.map_map]
  rfl
theorem bytes_nums (s : ByteArray) : strOfNums (bytesOf s) = s := by
  cases s with
  | mk d =>
    have h : (strOfNums (bytesOf ⟨d⟩)).data.toList = d.toList := by
      rw [strOfNums_data]
      unfold bytesOf
      rw [List.map_map]
      have : ((fun n : Int => UInt8.ofNat n.toNat) ∘ fun b : UInt8 => (b.toNat : Int)) = id := by
        funext b
        simp
      rw [this, List.map_id]
    cases hs : strOfNums (bytesOf ⟨d⟩) with
    | mk d2 =>
      rw [hs] at h
      simp only at h
      congr 1
      exact Array.ext' h
theorem marked_reads {B : Nat} {v : Value} {s : ByteArray} {w : World} (h : BRow B v s w) (hn : s.size ≤ 9223372036854775807) : ∃ A c, v = .slice A s.size c ∧ ReadsInt w .u8 A s.size (bytesOf s) := by
  have hbl : (bytesOf s).length = s.size := bytesOf_length s
  rcases h with h | ⟨g, hg, rfl, cells, fr, hh, hc⟩
  · have h2 : w.ownsRow B 5 1 v s.size ((bytesOf s).map (Value.int .u8)) := by rw [bytesOf_cells]; exact h
    have h3 := Kd.R_reads (d := Kd.int .u8) (e := 5) (ok := fun _ => True) (xs := bytesOf s) (Kd.R_of_own (enc := Value.int .u8) (h1 := fun _ => rfl) (by rw [hbl]; exact h2) (fun _ _ => trivial))
    obtain ⟨A, c, hv, _, hC⟩ := h3
    rw [hbl] at hv hC
    exact ⟨A, c, hv, Kd.reads_of_C (enc := Value.int .u8) (d := (0 : Int)) (h1 := fun _ => rfl) hC⟩
  · refine ⟨_, _, rfl, hbl, hn, fun _ => ⟨_, rfl, fun j hj => ?_⟩⟩
    have hj' : j < cells.size := by rw [← Array.length_toList, hc, Lib.strCells_length]; exact hj
    have e1 : w.cell? ((⟨g, 0, none⟩ : Addr).add j) = some (cells[j]'hj') := by
      rw [add_plain]
      simp [World.cell?, hh, hj']
    rw [e1]
    congr 1
    have e2 : cells.toList[j]? = some (cells[j]'hj') := by simp [hj']
    rw [hc, ← bytesOf_cells, List.getElem?_map] at e2
    rw [List.getD_eq_getElem?_getD]
    cases hb : (bytesOf s)[j]? with
    | none => rw [hb] at e2; simp at e2
    | some x => rw [hb] at e2; simpa using e2.symm
theorem brow_string {B : Nat} {v : Value} {s : ByteArray} {w : World} (h : BRow B v s w) (hn : s.size ≤ 9223372036854775807) {src dst : TypeId} (hs : Tryd.prog.underlying src = some (.slice 5)) (hd : Tryd.prog.underlying dst = some .string) :
    (convert src dst v).run Tryd.prog w = .ok (.string s) w := by
  obtain ⟨A, c, rfl, hr⟩ := marked_reads h hn
  have := string_of_reads (c := c) hs Tryd.underlying5 hd hr
  rw [bytes_nums] at this
  exact this
theorem wpList_append_brow {w0 w : World} {ops : Array Oper} {rest : List Oper} {o : Oper} {a : Act} {Q : Exit → Act → World → Prop} (hgd : o.guard = none) (sl x : Operand) (t u : TypeId)
    (ho : o.op = .call { callee := .builtin .append, args := #[sl, x], argTypes := #[t, u] })
    (ht : Tryd.prog.underlying t = some (.slice 5)) (hu : Tryd.prog.underlying u = some .string)
    (v : Value) (s : ByteArray) (hs : a.eval sl = v) (hrow : BRow w0.heap.size v s w) (y : ByteArray) (hx : a.eval x = .string y) (HB : Below w0.heap.size w0 w) (hy : 1 ≤ y.size)
    (hbytes : s.size + y.size ≤ 140737488355328)
    (h : ∀ v' w', BRow w0.heap.size v' (s ++ y) w' → Below w0.heap.size w0 w' → wpList Tryd.prog ops Q rest (a.put o.dst v') w') : wpList Tryd.prog ops Q (o :: rest) a w := by
  obtain ⟨i0, hi, hz0, hz1, hz2⟩ := info_parts u8_info
  have hsa : Lib.strCells (s ++ y) = Lib.strCells s ++ Lib.strCells y := by
    unfold Lib.strCells
    rw [ByteArray.data_append, Array.toList_append, List.map_append]
  rcases hrow with hown | ⟨g, hg, rfl, cells, fr, hh, hc⟩
  · refine Lib.wpList_append_own_string w hgd sl x t u ho w0.heap.size 5 i0 ht hu hi hz0 hz1 hz2 v s.size (Lib.strCells s) hs hown y hx (by unfold maxLen; omega) (by omega) HB.size ?_
    intro v' w' h1 h2 _
    exact h v' w' (.inl (by rw [hsa, ByteArray.size_append]; exact h1)) (HB.grown h2 HB.size (fun k hk => (hown.lt k hk).1))
  · refine wpList_plain hgd fun K hK => ?_
    have hcl : cells.size = s.size := by rw [← Array.length_toList, hc, Lib.strCells_length]
    have hr := Lib.run_append_grow_string (P := Tryd.prog) w t u o.type 5 i0 (.int .u8 0) ht hu hi hz0 ⟨g, 0, none⟩ s.size s.size (Lib.strCells s) (by rw [hz1, Lib.strCells_length, Nat.mul_one]) (fun j v hj => by
      have hj' : j < cells.size := by
        have := (List.getElem?_eq_some_iff.1 hj).1
        rw [Lib.strCells_length] at this
        omega
      rw [add_plain]
      rw [← hc] at hj
      have e2 : cells.toList[j]? = some (cells[j]'hj') := by simp [hj']
      rw [e2] at hj
      rw [← hj]
      simp [World.cell?, hh, hj']) y (by omega) (by omega) (by rw [hz2]; exact growslice_fits (by omega) (by omega))
    unfold Oper.wp execOp
    simp only [ho, resolve, invoke, builtin, Sem.run_bind, Sem.run_pure, Result.andThen_ok, List.map_toArray, List.map_cons, List.map_nil, hs, hx, hr]
    have hge := grownCap_ge w (s.size + y.size) s.size 5
    have hcm : grownCap w (s.size + y.size) s.size 5 ≤ maxLen := grownCap_le_maxLen w (s.size + y.size) s.size 5 (by unfold maxLen; omega)
    have hlen : (Lib.strCells s ++ Lib.strCells y).length = (s.size + y.size) * 1 := by rw [List.length_append, Lib.strCells_length, Lib.strCells_length, Nat.mul_one]
    refine hK _ _ (h _ _ (.inl ?_) ?_)
    · rw [hsa, ByteArray.size_append]
      refine ⟨hlen, .inr ⟨w.heap.size, _, _, rfl, HB.size, heap_alloc_new w.drew _, hge, hcm, ?_, ?_⟩⟩
      · have hz1' : (Value.int IntKind.u8 0).cells.size = 1 := rfl
        simp only [Array.size_append, List.size_toArray, size_zeroCells, hz1', Lib.strCells_length]
        omega
      · simp only [Array.toList_append, List.append_assoc]
        rw [← List.append_assoc, ← hlen]
        exact List.take_left
    · exact below_alloc (below_drew1 HB) _
end Go.Proofs.YtfempodohmhhlaaDoor.Ext
