/-
  ApplyApplies, in plain Lean.
-/
import Derived.Test.YtkoagpnoaibdjaaDoorPureM
import Derived.Test.YtkoagpnoaibdjaaDoorPp11
namespace Go.Proofs.YtkoagpnoaibdjaaDoor.Pure
open Go.RowKit Go.Proofs.YtkoagpnoaibdjaaDoor.Pp Go.Proofs.YtkoagpnoaibdjaaDoor.Ext Go.Proofs.YtkoagpnoaibdjaaDoorW.PrintWords Go.Proofs.YtkoagpnoaibdjaaDoorW.PrintLast Go.Proofs.YtkoagpnoaibdjaaDoorW.PrintMore
set_option linter.unusedVariables false
set_option linter.unusedSimpArgs false
theorem rd_hunk (l : List Hunk) (i : Nat) : rd_T44 l ((i : Nat) : Int) = l.getD i z44 := by show l.getD ((i : Int)).toNat _ = _; simp
theorem rd_mem (l : List Hunk) (i : Nat) (hi : i < l.length) : l.getD i z44 ∈ l := by
  rw [List.getD_eq_getElem?_getD, List.getElem?_eq_getElem hi]; exact List.getElem_mem hi
theorem twin_loop (l : List Hunk) (hl : l.length ≤ 1048576) (hs : ∀ h ∈ l, h.f5.length ≤ 1048576) (d : Nat) : ∀ (i : Nat) (x : List Hunk), i + d = l.length → x.length = i → Ev (fun k => selvagelaw17_twin.l0 k l x (i : Int)) (x ++ l.drop i) := by
  induction d with
  | zero =>
    intro i x h _
    rw [List.drop_of_length_le (by omega), List.append_nil]
    exact Ev.step (f := fun _ => some x) (fun k => by rw [selvagelaw17_twin.l0, if_neg (by omega)]) (Ev.pure _)
  | succ d ih =>
    intro i x h hx
    have hi : i < l.length := by omega
    have w1 : wrap64 ((i : Int) + 1) = ((i + 1 : Nat) : Int) := w_add i 1 (by omega)
    have hm := hs _ (rd_mem l i hi)
    have hd := ih (i + 1) (x ++ [l.getD i z44]) (by omega) (by rw [List.length_append]; simp; omega)
    rw [drop_by l z44 i hi, show x ++ l.getD i z44 :: l.drop (i + 1) = (x ++ [l.getD i z44]) ++ l.drop (i + 1) by simp]
    refine Ev.step (fun k => ?_) hd
    rw [selvagelaw17_twin.l0, w1, if_pos (by omega), if_pos (by omega), rd_hunk, if_pos (by rw [List.length_nil]; omega), if_pos (by omega)]
    rfl
theorem twin_at (l : List Hunk) (hl : l.length ≤ 1048576) (hs : ∀ h ∈ l, h.f5.length ≤ 1048576) : Ev (fun k => selvagelaw17_twin.f k l) l := by
  have := twin_loop l hl hs l.length 0 [] (by omega) rfl
  rw [List.drop_zero, List.nil_append] at this
  exact this
theorem hunks_rows (l : List Hunk) (i : Nat) (v : Bool) (h : Hunk) (hr : h.f5.length ≤ 1048576) (hv : Ev (fun k => selvagelaw17_sameHunks.l0 k l l (wrap64 ((i : Int) + 1))) v) (d : Nat) : ∀ j : Nat, j + d = h.f5.length →
    Ev (fun k => selvagelaw17_sameHunks.l1 k l l (i : Int) (j : Int) h.f0 h.f1 h.f2 h.f3 h.f4 h.f5 h.f0 h.f1 h.f2 h.f3 h.f4 h.f5) v := by
  induction d with
  | zero =>
    intro j hj
    refine Ev.step (fun k => ?_) hv
    rw [selvagelaw17_sameHunks.l1, if_neg (by omega)]
  | succ d ih =>
    intro j hj
    have w1 : wrap64 ((j : Int) + 1) = ((j + 1 : Nat) : Int) := w_add j 1 (by omega)
    refine Ev.step (fun k => ?_) (ih (j + 1) (by omega))
    rw [selvagelaw17_sameHunks.l1, w1, if_pos (by omega), if_pos (by omega), if_pos (by omega), if_neg (by simp)]
theorem hunks_loop (l : List Hunk) (hl : l.length ≤ 1048576) (hs : ∀ h ∈ l, h.f5.length ≤ 1048576) (d : Nat) : ∀ i : Nat, i + d = l.length → Ev (fun k => selvagelaw17_sameHunks.l0 k l l (i : Int)) true := by
  induction d with
  | zero =>
    intro i h
    exact Ev.step (f := fun _ => some true) (fun k => by rw [selvagelaw17_sameHunks.l0, if_neg (by omega)]) (Ev.pure _)
  | succ d ih =>
    intro i h
    have hi : i < l.length := by omega
    have w1 : wrap64 ((i : Int) + 1) = ((i + 1 : Nat) : Int) := w_add i 1 (by omega)
    have hm := hs _ (rd_mem l i hi)
    have h1 := ih (i + 1) (by omega)
    rw [← w1] at h1
    have h2 := hunks_rows l i true _ hm h1 _ 0 (Nat.zero_add _)
    refine Ev.step (fun k => ?_) (Ev.step (g := fun k => selvagelaw17_sameHunks.j1 k l l (i : Int) false (rd_T44 l (i : Int)).f0 (rd_T44 l (i : Int)).f1 (rd_T44 l (i : Int)).f2 (rd_T44 l (i : Int)).f3 (rd_T44 l (i : Int)).f4 (rd_T44 l (i : Int)).f5 (rd_T44 l (i : Int)).f0 (rd_T44 l (i : Int)).f1 (rd_T44 l (i : Int)).f2 (rd_T44 l (i : Int)).f3 (rd_T44 l (i : Int)).f4 (rd_T44 l (i : Int)).f5) (fun k => ?_) h2)
    · rw [selvagelaw17_sameHunks.l0, if_pos (by omega), if_pos (by omega), if_pos (by omega), if_pos rfl, if_pos rfl, if_pos rfl, if_pos rfl, if_pos rfl, bne_self_eq_false]
    · rw [selvagelaw17_sameHunks.j1, if_neg (by simp), rd_hunk]; rfl
theorem hunks_at (l : List Hunk) (hl : l.length ≤ 1048576) (hs : ∀ h ∈ l, h.f5.length ≤ 1048576) : Ev (fun k => selvagelaw17_sameHunks.f k l l) true :=
  Ev.same (fun k => by unfold selvagelaw17_sameHunks.f; rw [if_pos rfl]; rfl) (hunks_loop l hl hs l.length 0 (by omega))
theorem conv_rd (hits : List Hit) (i : Nat) : rd_T39 (hits.map conv) ((i : Nat) : Int) = conv (rd_T38 hits ((i : Nat) : Int)) := by
  show (hits.map conv).getD ((i : Int)).toNat z39 = conv (hits.getD ((i : Int)).toNat z38)
  rw [Int.toNat_natCast, List.getD_eq_getElem?_getD, List.getD_eq_getElem?_getD, List.getElem?_map]
  cases hits[i]? <;> rfl
theorem rej_loop (rej : List Int) (hl : rej.length ≤ 1048576) (d : Nat) : ∀ i : Nat, i + d = rej.length → Ev (fun k => selvagelaw17_ApplyApplies.l1 k rej rej (i : Int)) true := by
  induction d with
  | zero =>
    intro i h
    exact Ev.step (f := fun k => (selvagelaw17_sure.f k).bind fun t => some t) (fun k => by rw [selvagelaw17_ApplyApplies.l1, if_neg (by omega)]) (Ev.bind ev_sure (Ev.pure _))
  | succ d ih =>
    intro i h
    have w1 : wrap64 ((i : Int) + 1) = ((i + 1 : Nat) : Int) := w_add i 1 (by omega)
    refine Ev.step (fun k => ?_) (ih (i + 1) (by omega))
    rw [selvagelaw17_ApplyApplies.l1, w1, if_pos (by omega), if_pos (by omega), if_pos (by omega), if_pos rfl]
theorem hit_loop (hits : List Hit) (rej : List Int) (hh : hits.length ≤ 1048576) (hl : rej.length ≤ 1048576) (d : Nat) : ∀ i : Nat, i + d = hits.length → Ev (fun k => selvagelaw17_ApplyApplies.l0 k hits rej (hits.map conv) rej (i : Int)) true := by
  induction d with
  | zero =>
    intro i h
    exact Ev.step (fun k => by rw [selvagelaw17_ApplyApplies.l0, if_neg (by omega)]; rfl) (rej_loop rej hl rej.length 0 (by omega))
  | succ d ih =>
    intro i h
    have w1 : wrap64 ((i : Int) + 1) = ((i + 1 : Nat) : Int) := w_add i 1 (by omega)
    refine Ev.step (fun k => ?_) (ih (i + 1) (by omega))
    rw [selvagelaw17_ApplyApplies.l0, w1, if_pos (by omega), if_pos (by omega), if_pos (by rw [List.length_map]; omega), conv_rd, if_neg]
    unfold conv
    simp
theorem applies_ev (old : List ByteArray) (l : List Hunk) (z : Int) (hi : In old l) : Ev (fun k => selvagelaw17_ApplyApplies.f k old l z) true := by
  obtain ⟨out, hits, rej, e, h1, h2, b1, b2, b3⟩ := apply_ev old l z hi
  have hrows : ∀ h ∈ l, h.f5.length ≤ 1048576 := fun h hm => (hi.hunks h hm).rows
  have hlen := hi.len
  have hlim : ([] : List ByteArray).length + old.length < 8796093022208 := by rw [List.length_nil]; omega
  unfold selvagelaw17_ApplyApplies.f
  refine Ev.same (fun k => if_pos hlim) ?_
  simp only [List.nil_append, Option.bind_some]
  refine Ev.bind (twin_at l hi.count hrows) (Ev.bind h1 (Ev.bind h2 (Ev.bind (same_at out (by omega)) (Ev.same (fun k => if_pos rfl) (Ev.bind (num_ev e) ?_)))))
  refine Ev.same (fun k => if_pos rfl) (Ev.same (fun k => if_pos (by simp)) (Ev.same (fun k => if_pos rfl) (Ev.bind (same_at old (by omega)) (Ev.same (fun k => if_pos rfl) (Ev.bind (hunks_at l hi.count hrows) ?_)))))
  refine Ev.step (fun k => ?_) (hit_loop hits rej b2 b3 hits.length 0 (by omega))
  rw [selvagelaw17_ApplyApplies.j0, if_neg (by simp)]
  rfl
theorem ApplyApplies : ∀ (a0 : List ByteArray) (a1 : List Hunk) (a2 : Int), (∀ z ∈ a1, Ext.ok44 z) → (Lit.int IntKind.i64 a2).wf = true → ((a0.map (·.size)).sum + a0.length + 1) + ((a1.map Ext.wt44).sum + 1) + 1 ≤ 1048576 → ∃ k, selvagelaw17_ApplyApplies.f k a0 a1 a2 = some true := by
  intro a0 a1 a2 hok _ hb
  exact Ev.rounds (applies_ev a0 a1 a2 (in_of a0 a1 hok (by omega)))
end Go.Proofs.YtkoagpnoaibdjaaDoor.Pure
