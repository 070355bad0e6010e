/-
  ApplyOwn, in plain Lean.
-/
import Derived.Test.YtkoagpnoaibdjaaDoorPureM
import Derived.Test.YtkoagpnoaibdjaaDoorPp12
namespace Go.Proofs.YtkoagpnoaibdjaaDoor.Pure
open Go.RowKit Go.Proofs.YtkoagpnoaibdjaaDoor.Pp Go.Proofs.YtkoagpnoaibdjaaDoor.Ext Go.Proofs.YtkoagpnoaibdjaaDoorW.PrintWords Go.Proofs.YtkoagpnoaibdjaaDoorW.PrintLast Go.Proofs.YtkoagpnoaibdjaaDoorW.PrintMore
set_option linter.unusedVariables false
set_option linter.unusedSimpArgs false
theorem last_more (a m : List ByteArray) (x y : ByteArray) (hm : m = [x, y]) (ha : a.length ≤ 200000000) : 0 ≤ wrap64 (((a ++ m).length : Int) - 1) ∧ wrap64 (((a ++ m).length : Int) - 1) < ((a ++ m).length : Int) ∧ rdOf ByteArray.empty (a ++ m) (wrap64 (((a ++ m).length : Int) - 1)) = y := by
  have hlen : (a ++ m).length = a.length + 2 := by rw [List.length_append, hm]; rfl
  have w : wrap64 (((a ++ m).length : Int) - 1) = ((a.length + 1 : Nat) : Int) := by rw [hlen, w64' (by omega) (by omega)]; omega
  rw [w, rd_nat, hlen]
  refine ⟨by omega, by omega, ?_⟩
  rw [List.getD_eq_getElem?_getD, List.getElem?_append_right (by omega), Nat.add_sub_cancel_left, hm]; rfl
theorem own3 (x7 out rest : List ByteArray) (rej : List Int) (e : Option Int) (x y : ByteArray) (hx : x7 = rest ++ [x, y]) (hy : y = (⟨#[109, 111, 114, 101]⟩ : ByteArray)) (hr : rest.length ≤ 200000000) (ho : out.length ≤ 200000000) (hl : rej.length ≤ 1048576) (d : Nat) : ∀ i : Nat, i + d = rej.length →
    Ev (fun k => selvagelaw17_ApplyOwn.l3 k x7 out rej e out rej (numE e) (i : Int)) true := by
  induction d with
  | zero =>
    intro i h
    obtain ⟨g1, g2, g3⟩ := last_more rest [x, y] x y rfl hr
    rw [← hx] at g1 g2 g3
    refine Ev.step (fun k => by rw [selvagelaw17_ApplyOwn.l3, if_neg (by omega)]) (Ev.bind (same_at out (by omega)) (Ev.same (fun k => if_pos rfl) (Ev.bind (num_ev e) (Ev.same (fun k => if_pos rfl) (Ev.same (fun k => if_pos g1) (Ev.same (fun k => if_pos g2) ?_))))))
    rw [g3]
    exact Ev.same (fun k => if_pos (by rw [hy, Lib.toList_data])) (Ev.bind ev_sure (Ev.pure _))
  | succ d ih =>
    intro i h
    have w1 : wrap64 ((i : Int) + 1) = ((i + 1 : Nat) : Int) := w_add i 1 (by omega)
    refine Ev.step (fun k => ?_) (ih (i + 1) (by omega))
    rw [selvagelaw17_ApplyOwn.l3, w1, if_pos (by omega), if_pos (by omega), if_pos (by omega), if_pos rfl]
theorem own2 (old : List ByteArray) (l : List Hunk) (z : Int) (hi : In old l) (x7 : List ByteArray) (h7 : x7.length ≤ 200000000) (d : Nat) : ∀ (i : Nat) (x9 : List Int), i + d = x9.length → x9.length ≤ 1048576 →
    Ev (fun k => selvagelaw17_ApplyOwn.l2 k old l z x7 x9 (i : Int)) true := by
  induction d with
  | zero =>
    intro i x9 h h9
    obtain ⟨out, hits, rej, e, h1, h2, b1, b2, b3⟩ := apply_ev old l z hi
    refine Ev.step (fun k => by rw [selvagelaw17_ApplyOwn.l2, if_neg (by omega)]) ?_
    simp only [Option.bind_some]
    refine Ev.same (fun k => if_pos ?_) (Ev.bind h1 (Ev.bind h2 (Ev.same (fun k => if_pos rfl) (own3 _ out x7 rej e _ _ rfl rfl h7 b1 b3 rej.length 0 (by omega)))))
    simp only [List.length_cons, List.length_nil]; omega
  | succ d ih =>
    intro i x9 h h9
    have w1 : wrap64 ((i : Int) + 1) = ((i + 1 : Nat) : Int) := w_add i 1 (by omega)
    refine Ev.step (fun k => ?_) (ih (i + 1) (x9.set ((i : Int)).toNat (-7)) (by rw [List.length_set]; omega) (by rw [List.length_set]; omega))
    rw [selvagelaw17_ApplyOwn.l2, w1, if_pos (by omega), if_pos (by omega)]
theorem own1 (old : List ByteArray) (l : List Hunk) (z : Int) (hi : In old l) (x7 : List ByteArray) (h7 : x7.length ≤ 200000000) (x9 : List Int) (h9 : x9.length ≤ 1048576) (d : Nat) : ∀ (i : Nat) (x8 : List Hit), i + d = x8.length → x8.length ≤ 1048576 →
    Ev (fun k => selvagelaw17_ApplyOwn.l1 k old l z x7 x8 x9 (i : Int)) true := by
  induction d with
  | zero =>
    intro i x8 h h8
    exact Ev.step (fun k => by rw [selvagelaw17_ApplyOwn.l1, if_neg (by omega)]; rfl) (own2 old l z hi x7 h7 x9.length 0 x9 (by omega) h9)
  | succ d ih =>
    intro i x8 h h8
    have w1 : wrap64 ((i : Int) + 1) = ((i + 1 : Nat) : Int) := w_add i 1 (by omega)
    refine Ev.step (fun k => ?_) (ih (i + 1) (x8.set ((i : Int)).toNat (⟨(-7), 0, 0, 0⟩ : Hit)) (by rw [List.length_set]; omega) (by rw [List.length_set]; omega))
    rw [selvagelaw17_ApplyOwn.l1, w1, if_pos (by omega), if_pos (by omega)]
theorem own0 (old : List ByteArray) (l : List Hunk) (z : Int) (hi : In old l) (x8 : List Hit) (h8 : x8.length ≤ 1048576) (x9 : List Int) (h9 : x9.length ≤ 1048576) (d : Nat) : ∀ (i : Nat) (x7 : List ByteArray), i + d = x7.length → x7.length ≤ 200000000 →
    Ev (fun k => selvagelaw17_ApplyOwn.l0 k old l z x7 x8 x9 (i : Int)) true := by
  induction d with
  | zero =>
    intro i x7 h h7
    exact Ev.step (fun k => by rw [selvagelaw17_ApplyOwn.l0, if_neg (by omega)]; rfl) (own1 old l z hi x7 h7 x9 h9 x8.length 0 x8 (by omega) h8)
  | succ d ih =>
    intro i x7 h h7
    have w1 : wrap64 ((i : Int) + 1) = ((i + 1 : Nat) : Int) := w_add i 1 (by omega)
    refine Ev.step (fun k => ?_) (ih (i + 1) (x7.set ((i : Int)).toNat (⟨#[115, 112, 111, 105, 108, 116]⟩ : ByteArray)) (by rw [List.length_set]; omega) (by rw [List.length_set]; omega))
    rw [selvagelaw17_ApplyOwn.l0, w1, if_pos (by omega), if_pos (by omega)]
theorem own_ev (old : List ByteArray) (l : List Hunk) (z : Int) (hi : In old l) : Ev (fun k => selvagelaw17_ApplyOwn.f k old l z) true := by
  obtain ⟨out, hits, rej, e, h1, h2, b1, b2, b3⟩ := apply_ev old l z hi
  unfold selvagelaw17_ApplyOwn.f
  exact Ev.bind h1 (own0 old l z hi hits b2 rej b3 out.length 0 out (by omega) b1)
theorem ApplyOwn : ∀ (a0 : List ByteArray) (a1 : List Hunk) (a2 : Int), (∀ z ∈ a1, Ext.ok44 z) → (Lit.int IntKind.i64 a2).wf = true → ((a0.map (·.size)).sum + a0.length + 1) + ((a1.map Ext.wt44).sum + 1) + 1 ≤ 1048576 → ∃ k, selvagelaw17_ApplyOwn.f k a0 a1 a2 = some true := by
  intro a0 a1 a2 hok _ hb
  exact Ev.rounds (own_ev a0 a1 a2 (in_of a0 a1 hok (by omega)))
end Go.Proofs.YtkoagpnoaibdjaaDoor.Pure
