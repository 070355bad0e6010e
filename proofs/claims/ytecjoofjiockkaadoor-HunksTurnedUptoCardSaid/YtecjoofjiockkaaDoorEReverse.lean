/-
  hunks.Reverse and its closure; walked by hand.
-/
import Derived.Test.YtecjoofjiockkaaDoorPp0
import Derived.Test.YtecjoofjiockkaaDoorEPure
import Derived.OneCell
namespace Go.Proofs.YtecjoofjiockkaaDoor.Ext
open Go.RowKit Go.Proofs.YtecjoofjiockkaaDoor.Pp Go.Proofs.YtecjoofjiockkaaDoorW.PrintWords Go.Proofs.YtecjoofjiockkaaDoorW.PrintLast Go.Proofs.YtecjoofjiockkaaDoorW.PrintMore
set_option linter.unusedVariables false
set_option linter.unusedSimpArgs false
abbrev RowR (w : World) (base : Nat) (v : Value) (l : List S56) : Prop := Kd.R k56 56 w base (fun _ => True) v l
theorem row_flat {ok1 ok2 : Nat → Prop} {w : World} {base : Nat} {x : S56} {cs : List Value} (h : k56.M w base ok1 x cs) : k56.M w base ok2 x cs := h
section
variable {w0 w w1 : World} {b : Nat} {u v v1 vo vx vn : Value} {l out x n out1 : List S56}
theorem rowR_apart (h : RowR w b v l) (hne : NeRow v u) : Kd.R k56 56 w b (fun k => some k ≠ u.ownBlock) v l := Kd.R_flat (ok' := fun k => some k ≠ u.ownBlock) row_flat h (fun k hk _ e => hne k hk e.symm)
theorem rowR_over (h : RowR w b v l) (hne : NeRow v u) (hg : w.grownBy w1 u.ownBlock) : RowR w1 b v l := Kd.R_mono (Kd.R_grown (rowR_apart h hne) hg (fun k hk => hk)) (fun _ _ => trivial)
theorem rowR_far (h : RowR w b v l) {p : Addr} (hne : some p.block ≠ v.ownBlock) (y : Value) : RowR (w.setCell p y) b v l := Kd.R_mono (Kd.R_far (Kd.R_flat (ok' := fun k => k ≠ p.block) row_flat h (fun k hk _ e => hne (by rw [hk, e]))) (fun k hk => hk) y) (fun _ _ => trivial)
structure Rows3 (w0 : World) (vo vx vn : Value) (out x n : List S56) (w : World) : Prop where
  below : Below w0.heap.size w0 w
  o : RowR w w0.heap.size vo out
  x : RowR w w0.heap.size vx x
  n : RowR w w0.heap.size vn n
  ox : NeRow vo vx
  on : NeRow vo vn
  xn : NeRow vx vn
theorem Rows3.grown (i : Rows3 w0 vo vx vn out x n w) (hb : Below w0.heap.size w0 w1) (hg : w.grownBy w1 vo.ownBlock) (ho : RowR w1 w0.heap.size v1 out1) (hat : v1.ownBlock = vo.ownBlock ∨ ∃ b, v1.ownBlock = some b ∧ w.heap.size ≤ b) : Rows3 w0 v1 vx vn out1 x n w1 := by
  obtain ⟨_, hx⟩ := Kd.R_own i.x
  obtain ⟨_, hn⟩ := Kd.R_own i.n
  exact ⟨hb, ho, rowR_over i.x (ne_symm i.ox) hg, rowR_over i.n (ne_symm i.on) hg, ne_append i.ox hat hx, ne_append i.on hat hn, i.xn⟩
theorem Rows3.turn (i : Rows3 w0 vo vx vn out x n w) : Rows3 w0 vx vn vo x n out w := ⟨i.below, i.x, i.n, i.o, i.xn, ne_symm i.ox, ne_symm i.on⟩
theorem Rows3.then (i : Rows3 w0 vo vx vn out x n w) (k : Below w.heap.size w w1) : Rows3 w0 vo vx vn out x n w1 := ⟨below_step i.below k, Kd.R_below i.o k, Kd.R_below i.x k, Kd.R_below i.n k, i.ox, i.on, i.xn⟩
theorem Rows3.set (i : Rows3 w0 vo vx vn out x n w) {g : Nat} (g0 : w0.heap.size ≤ g) (ho : some g ≠ vo.ownBlock) (hx : some g ≠ vx.ownBlock) (hn : some g ≠ vn.ownBlock) (j : Nat) (y : Value) : Rows3 w0 vo vx vn out x n (w.setCell ⟨g, j, none⟩ y) :=
  ⟨below_set i.below g0, rowR_far i.o ho y, rowR_far i.x hx y, rowR_far i.n hn y, i.ox, i.on, i.xn⟩
theorem Rows3.lost (i : Rows3 w0 vo vx vn out x n w) : Rows3 w0 vo (.slice none 0 0) (.slice none 0 0) out [] [] w := ⟨i.below, i.o, Kd.R_nil _ _ _ _ _, Kd.R_nil _ _ _ _ _, ne_nil' _, ne_nil' _, ne_nil' _⟩
theorem ne_type {g t : Nat} {cs : Array Value} (h : RowR w b v l) (hb : w.heap[g]? = some (.cells cs t (0, 0))) (ht : 56 ≠ t) : some g ≠ v.ownBlock := Kd.R_ne h hb ht
end
structure RevIn (w0 : World) (g3 g4 g5 : Nat) (h : S41) (vo vx vn : Value) (out x n : List S56) (w : World) : Prop where
  r : Rows3 w0 vo vx vn out x n w
  b3 : w.heap[g3]? = some (.cells #[.int .i64 h.f0, .int .i64 h.f1, .int .i64 h.f2, .int .i64 h.f3, .string h.f4, vo] 41 (0, 0))
  b4 : w.heap[g4]? = some (.cells #[vx] 39 (0, 0))
  b5 : w.heap[g5]? = some (.cells #[vn] 39 (0, 0))
  l3 : w0.heap.size ≤ g3
  l4 : w0.heap.size ≤ g4
  l5 : w0.heap.size ≤ g5
  n45 : g4 ≠ g5
section
variable {w0 w w1 : World} {g3 g4 g5 : Nat} {h : S41} {u v v1 vo vx vn : Value} {out x n out1 : List S56}
theorem RevIn.then (i : RevIn w0 g3 g4 g5 h vo vx vn out x n w) (k : Below w.heap.size w w1) : RevIn w0 g3 g4 g5 h vo vx vn out x n w1 := ⟨i.r.then k, blk_below i.b3 k, blk_below i.b4 k, blk_below i.b5 k, i.l3, i.l4, i.l5, i.n45⟩
theorem RevIn.n34 (i : RevIn w0 g3 g4 g5 h vo vx vn out x n w) : g3 ≠ g4 := blk_ne i.b3 i.b4 (by decide)
theorem RevIn.n35 (i : RevIn w0 g3 g4 g5 h vo vx vn out x n w) : g3 ≠ g5 := blk_ne i.b3 i.b5 (by decide)
theorem RevIn.cells (i : RevIn w0 g3 g4 g5 h vo vx vn out x n w) : w.cell? ⟨g3, 5, none⟩ = some vo ∧ w.cell? ⟨g4, 0, none⟩ = some vx ∧ w.cell? ⟨g5, 0, none⟩ = some vn :=
  ⟨(blk_cell i.b3 5).trans rfl, (blk_cell i.b4 0).trans rfl, (blk_cell i.b5 0).trans rfl⟩
theorem RevIn.stored (i : RevIn w0 g3 g4 g5 h vo vx vn out x n w) (r : Rows3 w0 v1 vx vn out1 x n w1) (hg : w.grownBy w1 vo.ownBlock) : RevIn w0 g3 g4 g5 h v1 vx vn out1 x n (w1.setCell ⟨g3, 5, none⟩ v1) := by
  have c3 := blk_grown i.b3 hg (ne_type i.r.o i.b3 (by decide))
  have c4 := blk_grown i.b4 hg (ne_type i.r.o i.b4 (by decide))
  have c5 := blk_grown i.b5 hg (ne_type i.r.o i.b5 (by decide))
  exact ⟨r.set i.l3 (ne_type r.o c3 (by decide)) (ne_type r.x c3 (by decide)) (ne_type r.n c3 (by decide)) 5 v1, (blk_set c3 5 v1).trans rfl, blk_far c4 i.n34.symm v1, blk_far c5 i.n35.symm v1, i.l3, i.l4, i.l5, i.n45⟩
theorem RevIn.stored2 {w2 : World} {v2 : Value} {out2 : List S56} (i : RevIn w0 g3 g4 g5 h vo vx vn out x n w) (r1 : Rows3 w0 v1 vx vn out1 x n w1) (hg : w.grownBy w1 vo.ownBlock) (r2 : Rows3 w0 v2 vx vn out2 x n w2) (hg2 : w1.grownBy w2 v1.ownBlock) : RevIn w0 g3 g4 g5 h v2 vx vn out2 x n (w2.setCell ⟨g3, 5, none⟩ v2) := by
  have c3 := blk_grown i.b3 hg (ne_type i.r.o i.b3 (by decide))
  have c4 := blk_grown i.b4 hg (ne_type i.r.o i.b4 (by decide))
  have c5 := blk_grown i.b5 hg (ne_type i.r.o i.b5 (by decide))
  have d3 := blk_grown c3 hg2 (ne_type r1.o c3 (by decide))
  have d4 := blk_grown c4 hg2 (ne_type r1.o c4 (by decide))
  have d5 := blk_grown c5 hg2 (ne_type r1.o c5 (by decide))
  exact ⟨r2.set i.l3 (ne_type r2.o d3 (by decide)) (ne_type r2.x d3 (by decide)) (ne_type r2.n d3 (by decide)) 5 v2, (blk_set d3 5 v2).trans rfl, blk_far d4 i.n34.symm v2, blk_far d5 i.n35.symm v2, i.l3, i.l4, i.l5, i.n45⟩
theorem RevIn.cleared (i : RevIn w0 g3 g4 g5 h vo vx vn out x n w) : RevIn w0 g3 g4 g5 h vo (.slice none 0 0) (.slice none 0 0) out [] [] ((w.setCell ⟨g4, 0, none⟩ (.slice none 0 0)).setCell ⟨g5, 0, none⟩ (.slice none 0 0)) := by
  have s1 := i.r.set i.l4 (ne_type i.r.o i.b4 (by decide)) (ne_type i.r.x i.b4 (by decide)) (ne_type i.r.n i.b4 (by decide)) 0 (.slice none 0 0)
  have c5 := blk_far i.b5 (p := ⟨g4, 0, none⟩) i.n45.symm (.slice none 0 0)
  have s2 := s1.set i.l5 (ne_type s1.o c5 (by decide)) (ne_type s1.x c5 (by decide)) (ne_type s1.n c5 (by decide)) 0 (.slice none 0 0)
  exact ⟨s2.lost, blk_far (blk_far i.b3 (p := ⟨g4, 0, none⟩) i.n34 _) (p := ⟨g5, 0, none⟩) i.n35 _, blk_far ((blk_set i.b4 0 (.slice none 0 0)).trans rfl) (p := ⟨g5, 0, none⟩) i.n45 _, (blk_set c5 0 (.slice none 0 0)).trans rfl, i.l3, i.l4, i.l5, i.n45⟩
end
set_option maxHeartbeats 4000000 in
set_option maxRecDepth 100000 in
theorem rev1.calls (w0 : World) (g3 g4 g5 : Nat) (h : S41) (vo vx vn : Value) (out x n : List S56) (w : World) (hI : RevIn w0 g3 g4 g5 h vo vx vn out x n w) (hl : (out.length + x.length + n.length) * 24 ≤ 140737488355328) :
    Calls Tryd.prog 29 #[.pointer (some ⟨g3, 0, none⟩), .pointer (some ⟨g4, 0, none⟩), .pointer (some ⟨g5, 0, none⟩)] w
      fun e w' => e = .returned (.tuple #[]) ∧ ∃ v1, RevIn w0 g3 g4 g5 h v1 (.slice none 0 0) (.slice none 0 0) (out ++ x ++ n) [] [] w' ∧ ∀ g, g < w.heap.size → g ≠ g3 → g ≠ g4 → g ≠ g5 → some g ≠ vo.ownBlock → w'.heap[g]? = w.heap[g]? := by
  have HI := Aside0.mk hI
  have HL := Aside0.mk hl
  clear hI hl
  obtain ⟨Ax, cx, rfl, hcx, hCx⟩ := Kd.R_reads HI.out.r.x
  obtain ⟨An, cn, rfl, hcn, hCn⟩ := Kd.R_reads HI.out.r.n
  have HCX := Aside0.mk hCx
  have HCN := Aside0.mk hCn
  clear hCx hCn
  obtain ⟨x3, x4, x5⟩ := HI.out.cells
  go_enter Tryd.func29, Tryd.ntmps29
  go_upto_region 0 with (fail)
  refine start_ (n := 8) (ds := [7]) (S := fun w' => w'.cell? ⟨g3, 5, none⟩ = some vo ∧ w'.cell? ⟨g4, 0, none⟩ = some (.slice Ax x.length cx) ∧ w'.cell? ⟨g5, 0, none⟩ = some (.slice An n.length cn)) #[false, false, false, false, false, false, false, false] (by kernel_rfl) rfl rfl ⟨x3, x4, x5⟩ (fun hHeld => ?_)
  refine pure_ (i := 0) (N := some 3) (v := ?_) (a' := ?_) #[true, false, false, false, false, false, false, false] rfl rfl (by kernel_rfl) (fun _ _ _ h => h) (Or.inl ⟨by rfl, ?_⟩) ?_ ?_
  rotate_left
  · intro w'
    go_simp
    with_reducible rfl
  rotate_left
  · simp only [Act.put, List.setIfInBounds_toArray, List.set_cons_zero, List.set_cons_succ]
    rfl
  refine take_ (i := 1) (N := some 4) (v := ?_) (a' := ?_) #[true, true, false, false, false, false, false, false] rfl rfl (by kernel_rfl) (fun _ _ _ h => h) (Or.inl ⟨by rfl, ?_⟩) hHeld ?_ ?_
  rotate_left
  · rintro w' ⟨s0, s1, s2⟩
    go_simp
    with_reducible rfl
  rotate_left
  · simp only [Act.put, List.setIfInBounds_toArray, List.set_cons_zero, List.set_cons_succ]
    rfl
  refine take_ (i := 2) (N := some 5) (v := ?_) (a' := ?_) #[true, true, true, false, false, false, false, false] rfl rfl (by kernel_rfl) (fun _ _ _ h => h) (Or.inl ⟨by rfl, ?_⟩) hHeld ?_ ?_
  rotate_left
  · rintro w' ⟨s0, s1, s2⟩
    go_simp
    with_reducible rfl
  rotate_left
  · simp only [Act.put, List.setIfInBounds_toArray, List.set_cons_zero, List.set_cons_succ]
    rfl
  refine take_ (i := 4) (N := some 7) (v := ?_) (a' := ?_) #[true, true, true, false, true, false, false, false] rfl rfl (by kernel_rfl) (fun _ _ _ h => h) (Or.inl ⟨by rfl, ?_⟩) hHeld ?_ ?_
  rotate_left
  · rintro w' ⟨s0, s1, s2⟩
    go_simp
    with_reducible rfl
  rotate_left
  · simp only [Act.put, List.setIfInBounds_toArray, List.set_cons_zero, List.set_cons_succ]
    rfl
  have HD := Aside0.mk (HI.out.then (below_drew (Below.refl _ _)))
  have HD0 : Aside0 (w.heap.size = w.drew.heap.size) := ⟨rfl⟩
  have HD1 : Aside0 (∀ g, g < w.heap.size → w.drew.heap[g]? = w.heap[g]?) := ⟨fun _ _ => rfl⟩
  generalize w.drew = wd at HD HD0 HD1 hHeld ⊢
  refine one_ (i := 3) (N := some 6) #[true, true, true, true, true, false, false, false] rfl rfl (by kernel_rfl) (by decide) ?_
  intro K hK
  refine Kd.R_append_rows_step k56 (w0 := w0) w0.heap.size (by rfl) (.tmp 4) (.tmp 5) 39 56 (.agg #[(.int .i64 0), (.string ⟨#[]⟩)]) 24 rfl Tryd.underlying39 info56 rfl (by decide) (by omega) vo out x Ax x.length cx (fun _ => True) (fun _ => False) rfl rfl ?aO ?aR (fun _ _ h => h) (fun _ h => h.elim) (fun _ _ => trivial) ?aB ?aS ?aL ?_
  case aO => exact HD.out.r.o
  case aR => exact (Kd.R_reads' HD.out.r.x).2.2
  case aB => exact HD.out.r.below
  case aS => exact HD.out.r.below.size
  case aL => have := HL.out; omega
  intro v1 w1 ho hb hg hat
  have HR := Aside0.mk (HD.out.r.grown hb hg ho hat)
  have c3 := Aside0.mk (blk_grown HD.out.b3 hg (ne_type HD.out.r.o HD.out.b3 (by decide)))
  have c4 := Aside0.mk (blk_grown HD.out.b4 hg (ne_type HD.out.r.o HD.out.b4 (by decide)))
  have c5 := Aside0.mk (blk_grown HD.out.b5 hg (ne_type HD.out.r.o HD.out.b5 (by decide)))
  refine hK.out _ _ ⟨(blk_cell c3.out 5).trans rfl, (blk_cell c4.out 0).trans rfl, (blk_cell c5.out 0).trans rfl⟩ (fun hHeld1 => ?_)
  clear hK K
  refine norm_ (a' := ⟨#[.pointer (some ⟨g3, 0, none⟩), .pointer (some ⟨g4, 0, none⟩), .pointer (some ⟨g5, 0, none⟩), .pointer (some ⟨g3, 5, none⟩), vo, .slice Ax x.length cx, v1, .slice An n.length cn, undef, undef], []⟩) rfl ?_
  refine one_ (i := 5) (N := some 8) #[true, true, true, true, true, true, false, false] rfl rfl (by kernel_rfl) (by decide) ?_
  intro K hK
  refine Kd.R_append_rows_step k56 (w0 := w0) w0.heap.size (by rfl) (.tmp 6) (.tmp 7) 39 56 (.agg #[(.int .i64 0), (.string ⟨#[]⟩)]) 24 rfl Tryd.underlying39 info56 rfl (by decide) (by omega) v1 (out ++ x) n An n.length cn (fun _ => True) (fun _ => False) rfl rfl ?aO ?aR (fun _ _ h => h) (fun _ h => h.elim) (fun _ _ => trivial) ?aB ?aS ?aL ?_
  case aO => exact HR.out.o
  case aR => exact (Kd.R_reads' HR.out.n).2.2
  case aB => exact HR.out.below
  case aS => exact HR.out.below.size
  case aL => have := HL.out; rw [List.length_append]; omega
  intro v2 w2 ho2 hb2 hg2 hat2
  have HR2 := Aside0.mk (HR.out.grown hb2 hg2 ho2 hat2)
  obtain ⟨A2, m2, k2, rfl⟩ : ∃ A m k, v2 = .slice A m k := by
    obtain ⟨A, k, e, _, _⟩ := Kd.R_reads HR2.out.o
    exact ⟨A, _, k, e⟩
  have d3 := Aside0.mk (blk_grown c3.out hg2 (ne_type HR.out.o c3.out (by decide)))
  have d4 := Aside0.mk (blk_grown c4.out hg2 (ne_type HR.out.o c4.out (by decide)))
  have d5 := Aside0.mk (blk_grown c5.out hg2 (ne_type HR.out.o c5.out (by decide)))
  refine hK.out _ _ ⟨(blk_cell d3.out 5).trans rfl, (blk_cell d4.out 0).trans rfl, (blk_cell d5.out 0).trans rfl⟩ (fun hHeld2 => ?_)
  clear hK K
  refine norm_ (a' := ⟨#[.pointer (some ⟨g3, 0, none⟩), .pointer (some ⟨g4, 0, none⟩), .pointer (some ⟨g5, 0, none⟩), .pointer (some ⟨g3, 5, none⟩), vo, .slice Ax x.length cx, v1, .slice An n.length cn, .slice A2 m2 k2, undef], []⟩) rfl ?_
  refine pure_ (i := 6) (N := some 9) (v := ?_) (a' := ?_) #[true, true, true, true, true, true, true, false] rfl rfl (by kernel_rfl) (fun _ _ _ h => h) (Or.inl ⟨by rfl, ?_⟩) ?_ ?_
  rotate_left
  · intro w'
    go_simp
    with_reducible rfl
  rotate_left
  · simp only [Act.put, List.setIfInBounds_toArray, List.set_cons_zero, List.set_cons_succ]
    rfl
  refine last_ (i := 7) (N := none) #[true, true, true, true, true, true, true, true] rfl rfl (by kernel_rfl) (by decide) ?_
  intro K hK
  have hs := (blk_cell d3.out 5).trans rfl
  have hfs := blk_frozen d3.out 5
  refine skip_ (w1 := ?_) (by rfl) rfl ?_ ?_
  rotate_left
  · go_simp
    rfl
  refine hK.out _ _ ?_
  clear hK K hs hfs
  refine done_ (by kernel_rfl) ?_
  have HS := Aside0.mk (HD.out.stored2 HR.out hg HR2.out hg2)
  have KP : Aside0 (∀ g, g < w.heap.size → g ≠ g3 → g ≠ g4 → g ≠ g5 → some g ≠ vo.ownBlock → (w2.setCell ⟨g3, 5, none⟩ (.slice A2 m2 k2)).heap[g]? = w.heap[g]?) := ⟨fun g h1 h2 h3 h4 h5 => by
    rw [Below.heap_setCell w2 ⟨g3, 5, none⟩ (.slice A2 m2 k2) g h2]
    have hlt : g < w1.heap.size := Nat.lt_of_lt_of_le (HD0.out ▸ h1) hg.size
    rw [hg2.block g hlt (by rcases hat with e | ⟨b, e, hle⟩; rw [e]; exact h5; rw [e]; intro e2; injection e2 with e2; have := HD0.out; omega), hg.block g (HD0.out ▸ h1) h5]
    exact HD1.out g h1⟩
  generalize w2.setCell ⟨g3, 5, none⟩ (.slice A2 m2 k2) = w3 at HS KP ⊢
  have e4 := cell_of_one HS.out.b4
  have e5 := cell_of_one HS.out.b5
  have f4 := free_of_one HS.out.b4
  have f5 := free_of_one HS.out.b5
  have n45 := HS.out.n45
  go_wp2
  go_end0
  exact ⟨rfl, _, HS.out.cleared, fun g h1 h2 h3 h4 h5 => by rw [Below.heap_setCell _ ⟨g5, 0, none⟩ _ g h4, Below.heap_setCell _ ⟨g4, 0, none⟩ _ g h3]; exact KP.out g h1 h2 h3 h4 h5⟩
def revL : List S56 → List S56 → List S56 → List S56 → List S56
  | [], out, x, n => out ++ x ++ n
  | r :: t, out, x, n => if r.f0 = 2 then revL t out x (n ++ [⟨3, r.f1⟩]) else if r.f0 = 3 then revL t out (x ++ [⟨2, r.f1⟩]) n else revL t ((out ++ x ++ n) ++ [r]) [] []
def hunks_Reverse.f (a0 a1 a2 a3 : Int) (a4 : ByteArray) (l : List S56) : Option (Int × Int × Int × Int × ByteArray × List S56) :=
  if l.length ≤ 4000000000 then some (a2, a3, a0, a1, a4, revL l [] [] []) else none
structure RevSt (w0 : World) (g2 g3 g4 g5 : Nat) (h : S41) (vo vx vn : Value) (out x n : List S56) (w : World) : Prop where
  i : RevIn w0 g3 g4 g5 h vo vx vn out x n w
  b2 : w.heap[g2]? = some (.cells #[.int .i64 0, .int .i64 0, .int .i64 0, .int .i64 0, .string ⟨#[]⟩, .slice none 0 0] 41 (0, 0))
  l2 : w0.heap.size ≤ g2
  n23 : g2 ≠ g3
section
variable {w0 w w1 : World} {g2 g3 g4 g5 : Nat} {h : S41} {u v v1 vo vx vn : Value} {out x n out1 x1 n1 : List S56}
theorem RevSt.then (i : RevSt w0 g2 g3 g4 g5 h vo vx vn out x n w) (k : Below w.heap.size w w1) : RevSt w0 g2 g3 g4 g5 h vo vx vn out x n w1 := ⟨i.i.then k, blk_below i.b2 k, i.l2, i.n23⟩
theorem RevSt.n24 (i : RevSt w0 g2 g3 g4 g5 h vo vx vn out x n w) : g2 ≠ g4 := blk_ne i.b2 i.i.b4 (by decide)
theorem RevSt.n25 (i : RevSt w0 g2 g3 g4 g5 h vo vx vn out x n w) : g2 ≠ g5 := blk_ne i.b2 i.i.b5 (by decide)
theorem RevSt.storedO (i : RevSt w0 g2 g3 g4 g5 h vo vx vn out x n w) (hb : Below w0.heap.size w0 w1) (hg : w.grownBy w1 vo.ownBlock) (ho : RowR w1 w0.heap.size v1 out1) (hat : v1.ownBlock = vo.ownBlock ∨ ∃ b, v1.ownBlock = some b ∧ w.heap.size ≤ b) :
    RevSt w0 g2 g3 g4 g5 h v1 vx vn out1 x n (w1.setCell ⟨g3, 5, none⟩ v1) :=
  ⟨i.i.stored (i.i.r.grown hb hg ho hat) hg, blk_far (blk_grown i.b2 hg (ne_type i.i.r.o i.b2 (by decide))) i.n23 v1, i.l2, i.n23⟩
theorem RevSt.storedN (i : RevSt w0 g2 g3 g4 g5 h vo vx vn out x n w) (hb : Below w0.heap.size w0 w1) (hg : w.grownBy w1 vn.ownBlock) (ho : RowR w1 w0.heap.size v1 n1) (hat : v1.ownBlock = vn.ownBlock ∨ ∃ b, v1.ownBlock = some b ∧ w.heap.size ≤ b) :
    RevSt w0 g2 g3 g4 g5 h vo vx v1 out x n1 (w1.setCell ⟨g5, 0, none⟩ v1) := by
  have r : Rows3 w0 vo vx v1 out x n1 w1 := (i.i.r.turn.turn.grown hb hg ho hat).turn
  have ty := fun {g t : Nat} {cs : Array Value} (hb : w.heap[g]? = some (.cells cs t (0, 0))) (ht : 56 ≠ t) => ne_type i.i.r.n hb ht
  have c3 := blk_grown i.i.b3 hg (ty i.i.b3 (by decide))
  have c4 := blk_grown i.i.b4 hg (ty i.i.b4 (by decide))
  have c5 := blk_grown i.i.b5 hg (ty i.i.b5 (by decide))
  have c2 := blk_grown i.b2 hg (ty i.b2 (by decide))
  exact ⟨⟨r.set i.i.l5 (ne_type r.o c5 (by decide)) (ne_type r.x c5 (by decide)) (ne_type r.n c5 (by decide)) 0 v1, blk_far c3 i.i.n35 v1, blk_far c4 i.i.n45 v1, (blk_set c5 0 v1).trans rfl, i.i.l3, i.i.l4, i.i.l5, i.i.n45⟩, blk_far c2 i.n25 v1, i.l2, i.n23⟩
theorem RevSt.storedX (i : RevSt w0 g2 g3 g4 g5 h vo vx vn out x n w) (hb : Below w0.heap.size w0 w1) (hg : w.grownBy w1 vx.ownBlock) (ho : RowR w1 w0.heap.size v1 x1) (hat : v1.ownBlock = vx.ownBlock ∨ ∃ b, v1.ownBlock = some b ∧ w.heap.size ≤ b) :
    RevSt w0 g2 g3 g4 g5 h vo v1 vn out x1 n (w1.setCell ⟨g4, 0, none⟩ v1) := by
  have r : Rows3 w0 vo v1 vn out x1 n w1 := (i.i.r.turn.grown hb hg ho hat).turn.turn
  have ty := fun {g t : Nat} {cs : Array Value} (hb : w.heap[g]? = some (.cells cs t (0, 0))) (ht : 56 ≠ t) => ne_type i.i.r.x hb ht
  have c3 := blk_grown i.i.b3 hg (ty i.i.b3 (by decide))
  have c4 := blk_grown i.i.b4 hg (ty i.i.b4 (by decide))
  have c5 := blk_grown i.i.b5 hg (ty i.i.b5 (by decide))
  have c2 := blk_grown i.b2 hg (ty i.b2 (by decide))
  exact ⟨⟨r.set i.i.l4 (ne_type r.o c4 (by decide)) (ne_type r.x c4 (by decide)) (ne_type r.n c4 (by decide)) 0 v1, blk_far c3 i.i.n34 v1, (blk_set c4 0 v1).trans rfl, blk_far c5 i.i.n45.symm v1, i.i.l3, i.i.l4, i.i.l5, i.i.n45⟩, blk_far c2 i.n24 v1, i.l2, i.n23⟩
theorem RevSt.set8 (i : RevSt w0 g2 g3 g4 g5 h vo vx vn out x n w) {gb : Nat} (hn : w.heap.size ≤ gb) (k : Below w.heap.size w w1) {cs : Array Value} (hbx : w1.heap[gb]? = some (.cells cs 56 (0, 0))) (y0 y1 : Value) :
    RevSt w0 g2 g3 g4 g5 h vo vx vn out x n ((w1.setCell ⟨gb, 0, none⟩ y0).setCell ⟨gb, 1, none⟩ y1) := by
  have j := i.then k
  have ne : ∀ {v l}, RowR w w0.heap.size v l → some gb ≠ v.ownBlock := fun h e => by have := Kd.R_lt h gb e.symm; omega
  have gl : w0.heap.size ≤ gb := Nat.le_trans i.i.r.below.size hn
  have far : ∀ {g t : Nat} {cs' : Array Value}, w1.heap[g]? = some (.cells cs' t (0, 0)) → t ≠ 56 → ((w1.setCell ⟨gb, 0, none⟩ y0).setCell ⟨gb, 1, none⟩ y1).heap[g]? = some (.cells cs' t (0, 0)) := fun hg ht =>
    blk_far (blk_far hg (p := ⟨gb, 0, none⟩) (blk_ne hg hbx ht) y0) (p := ⟨gb, 1, none⟩) (blk_ne hg hbx ht) y1
  exact ⟨⟨(j.i.r.set gl (ne i.i.r.o) (ne i.i.r.x) (ne i.i.r.n) 0 y0).set gl (ne i.i.r.o) (ne i.i.r.x) (ne i.i.r.n) 1 y1, far j.i.b3 (by decide), far j.i.b4 (by decide), far j.i.b5 (by decide), i.i.l3, i.i.l4, i.i.l5, i.i.n45⟩, far j.b2 (by decide), i.l2, i.n23⟩
end
theorem blk_at {w : World} {o : Obj} {n : Nat} (h : w.heap.size = n) : (w.alloc o).heap[n]? = some o := by rw [← h]; exact blk_new w o
theorem revdrop {α : Type} (l : List α) (d : α) (i : Nat) (h : i < l.length) : l.drop i = l.getD i d :: l.drop (i + 1) := by
  rw [List.getD_eq_getElem?_getD, List.getElem?_eq_getElem h]
  exact List.drop_eq_getElem_cons h
set_option maxHeartbeats 8000000 in
set_option maxRecDepth 100000 in
theorem hunks_Reverse.calls (a0 a1 a2 a3 : Int) (a4 : ByteArray) (A5 : Option Addr) (c5 : Nat) (l : List S56) (r1 r2 r3 r4 : Int) (r5 : ByteArray) (r6 : List S56) (w : World) (hr : Kd.C k56 w A5 l.length l) (hc : l.length ≤ c5)
    (h : hunks_Reverse.f a0 a1 a2 a3 a4 l = some (r1, r2, r3, r4, r5, r6)) :
    Calls Tryd.prog 12 #[.agg #[.int .i64 a0, .int .i64 a1, .int .i64 a2, .int .i64 a3, .string a4, .slice A5 l.length c5]] w
      fun e w' => ∃ v5_ : Value, e = .returned (.agg #[.int .i64 r1, .int .i64 r2, .int .i64 r3, .int .i64 r4, .string r5, v5_]) ∧ Kd.R k56 56 w' w.heap.size (fun _ => True) v5_ r6 ∧ Below w.heap.size w w' := by
  unfold hunks_Reverse.f at h
  split at h
  case isFalse => cases h
  rename_i hlen
  simp only [Option.some.injEq, Prod.mk.injEq] at h
  obtain ⟨rfl, rfl, rfl, rfl, rfl, he⟩ := h
  have HE := Aside0.mk he
  have HR0 := Aside0.mk hr
  have HLEN := Aside0.mk hlen
  clear hr hlen he
  have hu29 := Tryd.underlying41
  have hmf : ∀ (fn : Fn) (first cap : Array Value) (w : World), (Instr.makeFunc fn first cap).run Tryd.prog w = .ok (.func fn first cap) w := fun _ _ _ _ => rfl
  go_enter Tryd.func12, Tryd.ntmps12
  go_upto_region 4 with (fail)
  generalize hW : (((((w.alloc (Obj.cells #[Value.int IntKind.i64 a0, Value.int IntKind.i64 a1, Value.int IntKind.i64 a2, Value.int IntKind.i64 a3, Value.string a4, Value.slice A5 l.length c5] 41)).alloc (Obj.cells #[Value.int IntKind.i64 0, Value.int IntKind.i64 0, Value.int IntKind.i64 0, Value.int IntKind.i64 0, Value.string { data := #[] }, Value.slice none 0 0] 41)).alloc (Obj.cells #[Value.int IntKind.i64 a2, Value.int IntKind.i64 a3, Value.int IntKind.i64 a0, Value.int IntKind.i64 a1, Value.string a4, Value.slice none 0 0] 41)).alloc (Obj.cells #[Value.slice none 0 0] 39)).alloc (Obj.cells #[Value.slice none 0 0] 39)) = W
  have HS := Aside0.mk (show RevSt w (w.heap.size + 1) (w.heap.size + 1 + 1) (w.heap.size + 1 + 1 + 1) (w.heap.size + 1 + 1 + 1 + 1) ⟨a2, a3, a0, a1, a4, []⟩ (.slice none 0 0) (.slice none 0 0) (.slice none 0 0) [] [] [] W by
    rw [← hW]
    refine ⟨⟨⟨below_alloc (below_alloc (below_alloc (below_alloc (below_alloc (Below.refl _ _) _) _) _) _) _, Kd.R_nil _ _ _ _ _, Kd.R_nil _ _ _ _ _, Kd.R_nil _ _ _ _ _, ne_nil' _, ne_nil' _, ne_nil' _⟩, ?_, ?_, ?_, by omega, by omega, by omega, by omega⟩, ?_, by omega, by omega⟩
    · exact blk_alloc (blk_alloc (blk_at (by simp)) _) _
    · exact blk_alloc (blk_at (by simp)) _
    · exact blk_at (by simp)
    · exact blk_alloc (blk_alloc (blk_alloc (blk_at (by simp)) _) _) _)
  have B0 : W.heap[w.heap.size]? = some (.cells #[Value.int IntKind.i64 a0, Value.int IntKind.i64 a1, Value.int IntKind.i64 a2, Value.int IntKind.i64 a3, Value.string a4, Value.slice A5 l.length c5] 41 (0, 0)) := by
    rw [← hW]
    exact blk_alloc (blk_alloc (blk_alloc (blk_alloc (blk_new w _) _) _) _) _
  have b05 : W.cell? ⟨w.heap.size, 5, none⟩ = some (Value.slice A5 l.length c5) := (blk_cell B0 5).trans rfl
  clear hW B0
  generalize w.heap.size + 1 + 1 + 1 + 1 = g5 at HS ⊢
  generalize w.heap.size + 1 + 1 + 1 = g4 at HS ⊢
  generalize w.heap.size + 1 + 1 = g3 at HS ⊢
  generalize w.heap.size + 1 = g2 at HS ⊢
  go_wp2
  go_loopg [24] (l.length + 1) (fun kq v24 w' => ∃ (i : Nat) (vo vx vn : Value) (out x n : List S56), v24 = .int .i64 (i : Int) ∧ Aside0 (i + kq = l.length + 1 ∧ out.length + x.length + n.length ≤ i) ∧ Aside0 (revL (l.drop i) out x n = r6) ∧ Aside0 (RevSt w g2 g3 g4 g5 ⟨a2, a3, a0, a1, a4, []⟩ vo vx vn out x n w'))
  case atStart => exact ⟨0, _, _, _, [], [], [], rfl, ⟨by omega, by simp⟩, HE, HS⟩
  case round =>
    clear HS HE b05
    obtain ⟨i, vo, vx, vn, out, x, n, rfl, HK, H, HS⟩ := hrel
    by_cases hi : i < l.length
    · have p1 : 0 ≤ (i : Int) := by omega
      have q1 : (i : Int) < (l.length : Int) := by omega
      have H1 := H.out
      rw [revdrop l z56 i hi] at H1
      have hrd : l.getD i z56 = rd_T56 l (i : Int) := rfl
      rw [hrd] at H1
      obtain ⟨ad, e1, hx0, hx1⟩ := at_T56 HR0.out (i : Int) p1 q1
      replace hx0 := pw_cell_below HS.out.i.r.below hx0
      replace hx1 := pw_cell_below HS.out.i.r.below hx1
      cases e1
      simp only [Int.toNat_natCast] at hx0 hx1
      have z1_ : decide ((i : Int) < (l.length : Int)) = true := decide_eq_true q1
      generalize rd_T56 l (i : Int) = g at H1 hx0 hx1
      clear hrd H
      have H2 := Aside0.mk H1
      have HW : Aside0 (wrap64 ((i : Int) + 1) = ((i + 1 : Nat) : Int)) := ⟨by rw [Pure.w64' (by omega) (by have := HLEN.out; omega)]; omega⟩
      clear H1
      go_upto_region 7 with ((with_reducible refine gate_dst (N := 8) rfl ?_); refine box_event ?hg (N := 8) ?hd (cs := #[.int .i64 0, .string ⟨#[]⟩]) (t := 56) ?hr ?_; (case hd => rfl); (case hg => rfl); (case hr => first | (go_simp; done) | (go_simp; rfl)); intro gb hg wx hbox hb; have GB := Aside0.mk (show some gb ≠ vo.ownBlock from fun e => by have := Kd.R_lt HS.out.i.r.o gb e.symm; omega); have HX_ := Aside0.mk (HS.out.set8 (Nat.le_of_eq hg.symm) hb hbox (.int .i64 g.f0) (.string g.f1)); have BX := Aside0.mk hbox; clear HS; clear hb hg; have cz0 := (blk_cell hbox 0).trans rfl; have fz0 := blk_frozen hbox 0; have cz1 := (blk_cell hbox 1).trans rfl; have fz1 := blk_frozen hbox 1; clear hbox)
      have HS := Aside0.mk HX_.out
      have BX8 : Aside0 (((wx.setCell ⟨gb, 0, none⟩ (.int .i64 g.f0)).setCell ⟨gb, 1, none⟩ (.string g.f1)).heap[gb]? = some (.cells #[.int .i64 g.f0, .string g.f1] 56 (0, 0))) := ⟨(blk_set (blk_set BX.out 0 _) 1 _).trans rfl⟩
      generalize (wx.setCell ⟨gb, 0, none⟩ (.int .i64 g.f0)).setCell ⟨gb, 1, none⟩ (.string g.f1) = W1 at HS BX8 ⊢
      clear HX_ BX cz0 cz1 fz0 fz1 hx0 hx1
      have k0 := (blk_cell BX8.out 0).trans rfl
      have k1_ := (blk_cell BX8.out 1).trans rfl
      have GO : Aside0 (some gb ≠ vo.ownBlock) := GB
      clear GB
      obtain ⟨c3, c4, c5_⟩ := HS.out.i.cells
      obtain ⟨Ao, mo, ko, rfl⟩ : ∃ A m k, vo = .slice A m k := by
        obtain ⟨A, k, e, _, _⟩ := Kd.R_reads HS.out.i.r.o
        exact ⟨A, _, k, e⟩
      obtain ⟨Ax, mx, kx, rfl⟩ : ∃ A m k, vx = .slice A m k := by
        obtain ⟨A, k, e, _, _⟩ := Kd.R_reads HS.out.i.r.x
        exact ⟨A, _, k, e⟩
      obtain ⟨An, mn, kn, rfl⟩ : ∃ A m k, vn = .slice A m k := by
        obtain ⟨A, k, e, _, _⟩ := Kd.R_reads HS.out.i.r.n
        exact ⟨A, _, k, e⟩
      have H1 := H2.out
      simp only [revL] at H1
      by_cases hk2 : g.f0 = 2
      · rw [if_pos hk2] at H1
        have H3 := Aside0.mk H1
        have kb : (g.f0 == 2) = true := beq_iff_eq.mpr hk2
        clear H1 H2 hk2
        go_wp2_with (first | ((with_reducible refine gate_builtin (b := .append) (xs := #[.tmp 40, .tmp 44]) rfl ?_); at_builtin; refine Kd.R_append k56 (w0 := w) w.heap.size rfl (.tmp 40) (.tmp 44) 39 56 (.agg #[(.int .i64 0), (.string ⟨#[]⟩)]) 24 rfl Tryd.underlying39 info56 rfl (by decide) (by omega) (.slice An mn kn) n (⟨3, g.f1⟩ : S56) [.int .i64 3, .string g.f1] (fun _ => True) (fun _ => False) rfl rfl ?aP (fun _ hk => hk.elim) (fun _ _ => trivial) ?aO ?aB ?aS ?aL ?_; (case aP => exact k56_mkM _ _ _ (⟨3, g.f1⟩ : S56)); (case aB => exact HS.out.i.r.below); (case aO => exact HS.out.i.r.n); (case aS => exact HS.out.i.r.below.size); (case aL => have := HK.out.2; have := HLEN.out; (try simp only [List.length_append, List.length_nil]); omega); intro v1 w1 ho hb hg hat; obtain ⟨A1, m1, k1, rfl⟩ : (∃ A m k, v1 = .slice A m k) := (by obtain ⟨A, k, e, _, _⟩ := Kd.R_reads ho; exact ⟨A, _, k, e⟩); have HS2 := Aside0.mk (HS.out.storedN hb hg ho hat); have d5 := blk_grown HS.out.i.b5 hg (ne_type HS.out.i.r.n HS.out.i.b5 (by decide)); have hs5 := (blk_cell d5 0).trans rfl; have hf5 := blk_frozen d5 0; clear d5 HS; have HS := HS2; clear HS2 ho hb hg hat))
        go_roundg (gk - 1)
        case measure => have := HK.out; omega
        case rel => exact ⟨i + 1, _, _, _, _, _, _, (by first | (rw [HW.out]; done) | go_num | (simp; done)), ⟨by have := HK.out; simp only [List.length_append, List.length_cons, List.length_nil]; omega⟩, H3, ⟨HS.out⟩⟩
      · rw [if_neg hk2] at H1
        have kb : (g.f0 == 2) = false := beq_eq_false_iff_ne.mpr hk2
        clear hk2
        by_cases hk3 : g.f0 = 3
        · rw [if_pos hk3] at H1
          have H3 := Aside0.mk H1
          have kb3 : (g.f0 == 3) = true := beq_iff_eq.mpr hk3
          clear H1 H2 hk3
          go_wp2_with (first | ((with_reducible refine gate_builtin (b := .append) (xs := #[.tmp 48, .tmp 52]) rfl ?_); at_builtin; refine Kd.R_append k56 (w0 := w) w.heap.size rfl (.tmp 48) (.tmp 52) 39 56 (.agg #[(.int .i64 0), (.string ⟨#[]⟩)]) 24 rfl Tryd.underlying39 info56 rfl (by decide) (by omega) (.slice Ax mx kx) x (⟨2, g.f1⟩ : S56) [.int .i64 2, .string g.f1] (fun _ => True) (fun _ => False) rfl rfl ?aP (fun _ hk => hk.elim) (fun _ _ => trivial) ?aO ?aB ?aS ?aL ?_; (case aP => exact k56_mkM _ _ _ (⟨2, g.f1⟩ : S56)); (case aB => exact HS.out.i.r.below); (case aO => exact HS.out.i.r.x); (case aS => exact HS.out.i.r.below.size); (case aL => have := HK.out.2; have := HLEN.out; (try simp only [List.length_append, List.length_nil]); omega); intro v1 w1 ho hb hg hat; obtain ⟨A1, m1, k1, rfl⟩ : (∃ A m k, v1 = .slice A m k) := (by obtain ⟨A, k, e, _, _⟩ := Kd.R_reads ho; exact ⟨A, _, k, e⟩); have HS2 := Aside0.mk (HS.out.storedX hb hg ho hat); have d5 := blk_grown HS.out.i.b4 hg (ne_type HS.out.i.r.x HS.out.i.b4 (by decide)); have hs5 := (blk_cell d5 0).trans rfl; have hf5 := blk_frozen d5 0; clear d5 HS; have HS := HS2; clear HS2 ho hb hg hat))
          go_roundg (gk - 1)
          case measure => have := HK.out; omega
          case rel => exact ⟨i + 1, _, _, _, _, _, _, (by first | (rw [HW.out]; done) | go_num | (simp; done)), ⟨by have := HK.out; simp only [List.length_append, List.length_cons, List.length_nil]; omega⟩, H3, ⟨HS.out⟩⟩
        · rw [if_neg hk3] at H1
          have H3 := Aside0.mk H1
          have kb3 : (g.f0 == 3) = false := beq_eq_false_iff_ne.mpr hk3
          clear H1 H2 hk3
          go_upto_region 9 with (go_at_call 29; (with_reducible refine (rev1.calls w g3 g4 g5 _ _ _ _ out x n _ HS.out.i ?sl).mono ?_); (case sl => have := HK.out; have := HLEN.out; omega); rintro e' w4 ⟨rfl, vo1, hi1, hkeep⟩; have hgb := blk_lt BX8.out; have b2' := (hkeep g2 (blk_lt HS.out.b2) HS.out.n23 HS.out.n24 HS.out.n25 (ne_type HS.out.i.r.o HS.out.b2 (by decide))).trans HS.out.b2; have BX9 := Aside0.mk ((hkeep gb hgb (blk_ne BX8.out HS.out.i.b3 (by decide)) (blk_ne BX8.out HS.out.i.b4 (by decide)) (blk_ne BX8.out HS.out.i.b5 (by decide)) GO.out).trans BX8.out); have HS2 := Aside0.mk (show RevSt w g2 g3 g4 g5 _ _ _ _ _ _ _ _ from ⟨hi1, b2', HS.out.l2, HS.out.n23⟩); clear HS BX8 k0 k1_ GO c3 c4 c5_ hi1 hkeep hgb b2'; have HS := HS2; clear HS2)
          obtain ⟨Ao1, mo1, ko1, rfl⟩ : ∃ A m k, vo1 = .slice A m k := by
            obtain ⟨A, k, e, _, _⟩ := Kd.R_reads HS.out.i.r.o
            exact ⟨A, _, k, e⟩
          have k0 := (blk_cell BX9.out 0).trans rfl
          have k1_ := (blk_cell BX9.out 1).trans rfl
          obtain ⟨c3, c4, c5_⟩ := HS.out.i.cells
          go_wp2_with (first | ((with_reducible refine gate_builtin (b := .append) (xs := #[.tmp 33, .tmp 35]) rfl ?_); at_builtin; refine Kd.R_append k56 (w0 := w) w.heap.size rfl (.tmp 33) (.tmp 35) 39 56 (.agg #[(.int .i64 0), (.string ⟨#[]⟩)]) 24 rfl Tryd.underlying39 info56 rfl (by decide) (by omega) (.slice Ao1 mo1 ko1) (out ++ x ++ n) (⟨g.f0, g.f1⟩ : S56) [.int .i64 g.f0, .string g.f1] (fun _ => True) (fun _ => False) rfl rfl ?aP (fun _ hk => hk.elim) (fun _ _ => trivial) ?aO ?aB ?aS ?aL ?_; (case aP => exact k56_mkM _ _ _ (⟨g.f0, g.f1⟩ : S56)); (case aB => exact HS.out.i.r.below); (case aO => exact HS.out.i.r.o); (case aS => exact HS.out.i.r.below.size); (case aL => have := HK.out.2; have := HLEN.out; (try simp only [List.length_append, List.length_nil]); omega); intro v1 w1 ho hb hg hat; obtain ⟨A1, m1, k1, rfl⟩ : (∃ A m k, v1 = .slice A m k) := (by obtain ⟨A, k, e, _, _⟩ := Kd.R_reads ho; exact ⟨A, _, k, e⟩); have HS2 := Aside0.mk (HS.out.storedO hb hg ho hat); have d5 := blk_grown HS.out.i.b3 hg (ne_type HS.out.i.r.o HS.out.i.b3 (by decide)); have hs5 := (blk_cell d5 5).trans rfl; have hf5 := blk_frozen d5 5; clear d5 HS; have HS := HS2; clear HS2 ho hb hg hat))
          go_roundg (gk - 1)
          case measure => have := HK.out; omega
          case rel => exact ⟨i + 1, _, _, _, _, _, _, (by first | (rw [HW.out]; done) | go_num | (simp; done)), ⟨by have := HK.out; simp only [List.length_append, List.length_cons, List.length_nil]; omega⟩, H3, ⟨HS.out⟩⟩
    · have hd : l.drop i = [] := List.drop_of_length_le (by omega)
      have H1 := H.out
      rw [hd] at H1
      simp only [revL] at H1
      have z1_ : decide ((i : Int) < (l.length : Int)) = false := decide_eq_false (by omega)
      clear H hd
      go_upto_region 16 with (go_at_call 29; (with_reducible refine (rev1.calls w g3 g4 g5 _ _ _ _ out x n _ HS.out.i ?sl).mono ?_); (case sl => have := HK.out; have := HLEN.out; omega); rintro e' w4 ⟨rfl, vo1, hi1, hkeep⟩; have b2' := (hkeep g2 (blk_lt HS.out.b2) HS.out.n23 HS.out.n24 HS.out.n25 (ne_type HS.out.i.r.o HS.out.b2 (by decide))).trans HS.out.b2; have HS2 := Aside0.mk (show RevSt w g2 g3 g4 g5 _ _ _ _ _ _ _ _ from ⟨hi1, b2', HS.out.l2, HS.out.n23⟩); clear HS hi1 hkeep b2'; have HS := HS2; clear HS2)
      obtain ⟨Ao1, mo1, ko1, rfl⟩ : ∃ A m k, vo1 = .slice A m k := by
        obtain ⟨A, k, e, _, _⟩ := Kd.R_reads HS.out.i.r.o
        exact ⟨A, _, k, e⟩
      have c0 := (blk_cell HS.out.i.b3 0).trans rfl
      have c1 := (blk_cell HS.out.i.b3 1).trans rfl
      have c2 := (blk_cell HS.out.i.b3 2).trans rfl
      have c3 := (blk_cell HS.out.i.b3 3).trans rfl
      have c4 := (blk_cell HS.out.i.b3 4).trans rfl
      have c5_ := (blk_cell HS.out.i.b3 5).trans rfl
      have d0 := (blk_cell HS.out.b2 0).trans rfl
      have d1 := (blk_cell HS.out.b2 1).trans rfl
      have d2 := (blk_cell HS.out.b2 2).trans rfl
      have d3 := (blk_cell HS.out.b2 3).trans rfl
      have d4 := (blk_cell HS.out.b2 4).trans rfl
      have d5 := (blk_cell HS.out.b2 5).trans rfl
      have y0 := blk_frozen HS.out.b2 0
      have y1 := blk_frozen HS.out.b2 1
      have y2 := blk_frozen HS.out.b2 2
      have y3 := blk_frozen HS.out.b2 3
      have y4 := blk_frozen HS.out.b2 4
      have y5 := blk_frozen HS.out.b2 5
      go_wp2
      have E2 := HS.out.b2
      have Z : Aside0 (RevSt w g2 g3 g4 g5 _ _ _ _ _ _ _ _) := HS
      refine bodyPost_ret (results_cell_row rfl _ _ g2 41 #[.int .i64 a2, .int .i64 a3, .int .i64 a0, .int .i64 a1, .string a4, .slice Ao1 mo1 ko1] (0, 0) _ rfl ((blk_set (blk_set (blk_set (blk_set (blk_set (blk_set E2 0 _) 1 _) 2 _) 3 _) 4 _) 5 _).trans rfl) Tryd.underlying41 rfl (by kernel_rfl)) rfl ?_
      have ne : some g2 ≠ (Value.slice Ao1 mo1 ko1).ownBlock := ne_type Z.out.i.r.o E2 (by decide)
      refine ⟨_, rfl, ?_, ?_⟩
      · rw [← H1]
        exact rowR_far (rowR_far (rowR_far (rowR_far (rowR_far (rowR_far Z.out.i.r.o (p := ⟨g2, 0, none⟩) ne _) (p := ⟨g2, 1, none⟩) ne _) (p := ⟨g2, 2, none⟩) ne _) (p := ⟨g2, 3, none⟩) ne _) (p := ⟨g2, 4, none⟩) ne _) (p := ⟨g2, 5, none⟩) ne _
      · exact below_set (below_set (below_set (below_set (below_set (below_set Z.out.i.r.below Z.out.l2) Z.out.l2) Z.out.l2) Z.out.l2) Z.out.l2) Z.out.l2
end Go.Proofs.YtecjoofjiockkaaDoor.Ext
