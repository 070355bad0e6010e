/-
  Blocks that the printed texts hold again and again, as lemmas with an automatic argument (squeeze.py puts their names in the blocks' place).
-/
import Derived.Test.YtecjoofjiockkaaDoorEBase
import Derived.Test.YtecjoofjiockkaaDoorWWords
import Derived.WalkKit
import Derived.Test.YtecjoofjiockkaaDoorWLast
import Derived.Test.YtecjoofjiockkaaDoorWTab
import Derived.Test.YtecjoofjiockkaaDoorWMore
namespace Go.Proofs.YtecjoofjiockkaaDoor.Ext
open Go.RowKit Go.Proofs.YtecjoofjiockkaaDoorW.PrintWords
theorem belNow {b : Nat} {w0 W : World} (h : Below b w0 W := by repeat (first | (with_reducible first | exact HB.out | apply below_alloc | apply pw_below_drewN | apply below_drew1) | exact HB.out)) : Below b w0 W := h
theorem belPut {b : Nat} {w0 W : World} (h : Below b w0 W := by repeat (first | (with_reducible first | exact HB.out | apply below_alloc | apply pw_below_drewN | apply below_drew1 | refine below_set ?_ (Aside0.out (by assumption))) | exact HB.out)) : Below b w0 W := h
theorem eqEnd {α : Sort _} {a b : α} (h : a = b := by first | rfl | (simp [errW_none, errW_some] <;> rfl) | (simp [*, errW_none, errW_some] <;> rfl) | (simp only [i64_w, i32_w, u8_w]; first | rfl | (simp [errW_none, errW_some] <;> rfl)) | (simp only [bne_nil, beq_nil]; first | rfl | (simp <;> rfl))) : a = b := h
theorem eqFin {α : Sort _} {a b : α} (h : a = b := by first | rfl | (simp; done) | (simp [*]; done) | (simp [*] <;> rfl) | (simp only [i64_w, i32_w, u8_w]; first | rfl | (simp [errW_none, errW_some] <;> rfl)) | (simp only [bne_nil, beq_nil]; first | rfl | (simp <;> rfl))) : a = b := h
theorem eqNow {α : Sort _} {a b : α} (h : a = b := by first | rfl | (simp; done) | (simp [*]; done) | (simp [*] <;> rfl)) : a = b := h
theorem argsOk {α : Sort _} {a b : α} (h : a = b := by (try simp only [List.map_toArray, List.map_cons, List.map_nil]); first | done | rfl | (simp only [List.length_drop, List.length_take]; rfl)) : a = b := h
theorem ofDec {p : Prop} [Decidable p] (h : decide p = true := by first | (with_reducible assumption) | assumption) : p := of_decide_eq_true h
theorem drawnNow {w W : World} (h : Drawn0 w W := by repeat (first | exact Drawn0.refl _ | apply Drawn0.step)) : Drawn0 w W := h
theorem kdUp {p q : Prop} (h : p) (hk : p → q := by intro h_; (with_reducible repeat (first | apply Kd.R_alloc | apply Kd.R_drewN | apply Kd.R_drew)); exact h_) : q := hk h
theorem bkUp {p q : Prop} (h : p) (hk : p → q := by intro h_; (with_reducible repeat (first | refine blk_drewN ?_ _ | refine blk_drew ?_ | refine blk_alloc ?_ _)); exact h_) : q := hk h
end Go.Proofs.YtecjoofjiockkaaDoor.Ext
namespace Go.Proofs.YtecjoofjiockkaaDoor.Ext
open Go.RowKit Go.Proofs.YtecjoofjiockkaaDoorW.PrintWords Go.Proofs.YtecjoofjiockkaaDoorW.PrintLast
set_option linter.unusedVariables false
theorem neBlk {w : World} {a : Addr} {v : Value} {g b : Nat} (hw : w.cell? a = some v) (hg : w.heap.size ≤ g) (h : b = a.block := by first | rfl | (simp only [add_block]; done) | (show _ = (Addr.add _ _).block; simp only [add_block]; done)) : b ≠ g := by
  subst h
  exact Nat.ne_of_lt (Nat.lt_of_lt_of_le (World.block_lt_of_cell? _ _ hw) hg)
theorem bkc {w : World} {g : Nat} {t : TypeId} {cs : Array Value} {v : Value} (h : w.heap[g]? = some (.cells cs t (0, 0))) (i : Nat) (e : cs[i]? = some v) : w.cell? ⟨g, i, none⟩ = some v := (blk_cell h i).trans e
theorem bszNow {w W : World} {g : Nat} (hg : g = W.heap.size) (h : w.heap.size ≤ W.heap.size := by exact (below_size belNow)) : w.heap.size ≤ g := hg ▸ h
section
variable {P : Program} {ops : Array Oper} {Q : Exit → Act → World → Prop} {md : Region.Mode} {S : World → Prop} {ds : List Nat}
theorem boxEv {rest : List Oper} {o : Oper} {a : Act} {W : World} {N : Tmp} (cs : Array Value) (t : TypeId)
    (h : ∀ g, g = W.heap.size → ∀ w1, w1.heap[g]? = some (.cells cs t (0, 0)) → Below W.heap.size W w1 → wpList P ops Q rest (a.put o.dst (.pointer (some ⟨g, 0, none⟩))) w1)
    (hd : o.dst = some N := by rfl) (hgd : o.guard = none := by rfl)
    (hrun : (execOp a.eval o).run P W = .ok (.value (.pointer (some ⟨W.heap.size, 0, none⟩))) (W.alloc (.cells cs t (0, 0))) := by first | (go_simp; done) | (go_simp; rfl)) : wpList P ops Q (o :: rest) a W :=
  box_event hgd hd hrun h
theorem cUp {w W : World} {a : Addr} {v : Value} (hb : Below w.heap.size w W) (hx : w.cell? a = some v) : W.cell? a = some v := (hb.cell (World.block_lt_of_cell? w _ hx)).trans hx
end
end Go.Proofs.YtecjoofjiockkaaDoor.Ext
namespace Go.Proofs.YtecjoofjiockkaaDoor.Ext
open Go.RowKit Go.Proofs.YtecjoofjiockkaaDoorW.PrintWords Go.Proofs.YtecjoofjiockkaaDoorW.PrintLast
set_option linter.unusedVariables false
section
variable {α : Type} {x y r : α}
theorem itL {p : Prop} {d : Decidable p} (h : (@ite α p d x y) = r) : (p ∧ decide p = true ∧ x = r) ∨ (¬ p ∧ decide p = false ∧ y = r) := by
  by_cases hp : p
  · exact Or.inl ⟨hp, decide_eq_true hp, by rw [if_pos hp] at h; exact h⟩
  · exact Or.inr ⟨hp, decide_eq_false hp, by rw [if_neg hp] at h; exact h⟩
theorem itLn {p : Prop} {d : Decidable p} (h : (@ite α p d x y) = r) : (¬ p ∧ decide p = false ∧ y = r) ∨ (p ∧ decide p = true ∧ x = r) := (itL h).symm
theorem itG {a b : Int} (h : (if a > b then x else y) = r) : (a > b ∧ decide (b < a) = true ∧ x = r) ∨ (¬ a > b ∧ decide (b < a) = false ∧ y = r) := itL h
theorem itHn {a b : Int} (h : (if a ≥ b then x else y) = r) : (¬ a ≥ b ∧ decide (b ≤ a) = false ∧ y = r) ∨ (a ≥ b ∧ decide (b ≤ a) = true ∧ x = r) := itLn h
theorem itE {β : Type} [BEq β] [LawfulBEq β] {a b : β} {d : Decidable (a = b)} (h : (@ite α (a = b) d x y) = r) : (a = b ∧ (a == b) = true ∧ (a != b) = false ∧ x = r) ∨ (¬ a = b ∧ (a == b) = false ∧ (a != b) = true ∧ y = r) := by
  by_cases hp : a = b
  · exact Or.inl ⟨hp, beq_iff_eq.mpr hp, bne_eq_false_iff_eq.mpr hp, by rw [if_pos hp] at h; exact h⟩
  · exact Or.inr ⟨hp, beq_eq_false_iff_ne.mpr hp, bne_iff_ne.mpr hp, by rw [if_neg hp] at h; exact h⟩
theorem itEn {β : Type} [BEq β] [LawfulBEq β] {a b : β} {d : Decidable (a = b)} (h : (@ite α (a = b) d x y) = r) : (¬ a = b ∧ (a == b) = false ∧ (a != b) = true ∧ y = r) ∨ (a = b ∧ (a == b) = true ∧ (a != b) = false ∧ x = r) := (itE h).symm
theorem itB {b : Bool} (h : (if b = true then x else y) = r) : (b = true ∧ x = r) ∨ (b = false ∧ y = r) := by
  cases b
  · exact Or.inr ⟨rfl, by rw [if_neg (by decide)] at h; exact h⟩
  · exact Or.inl ⟨rfl, by rw [if_pos rfl] at h; exact h⟩
theorem itBn {b : Bool} (h : (if b = true then x else y) = r) : (b = false ∧ y = r) ∨ (b = true ∧ x = r) := (itB h).symm
end
theorem bdS {α β : Type} {o : Option α} {f : α → Option β} {r : β} (h : o.bind f = some r) : ∃ t, Aside0 (o = some t) ∧ f t = some r := by
  obtain ⟨t, h1, h2⟩ := Option.bind_eq_some_iff.mp h
  exact ⟨t, ⟨h1⟩, h2⟩
theorem putM {w : World} {g : Nat} {t : TypeId} {cs cs' : Array Value} {i : Nat} {u : Value} (h : w.heap[g]? = some (.cells cs t (0, 0))) (e : cs.setIfInBounds i u = cs') : (w.setCell ⟨g, i, none⟩ u).heap[g]? = some (.cells cs' t (0, 0)) := blk_put h i u e
theorem farM {w : World} {g : Nat} {t : TypeId} {cs : Array Value} {p : Addr} {u : Value} (hp : Aside0 (g ≠ p.block)) (h : w.heap[g]? = some (.cells cs t (0, 0))) : (w.setCell p u).heap[g]? = some (.cells cs t (0, 0)) := blk_far h hp.out u
section
variable {w0 W w' : World} {g g' : Nat} {o0 o : Obj}
theorem bkT (h : Aside0 (w0.heap[g]? = some o0)) (hk : w0.heap[g]? = some o0 → W.heap[g]? = some o := by (intro h_; (repeat (first | (with_reducible exact h_) | (with_reducible refine blk_drewN ?_ _) | (with_reducible refine blk_drew ?_) | (with_reducible refine blk_alloc ?_ _) | apply putM | (apply farM; assumption) | exact h_)); all_goals (first | (simp only [List.setIfInBounds_toArray, List.set_cons_zero, List.set_cons_succ]; done) | (simp only [List.setIfInBounds_toArray, List.set_cons_zero, List.set_cons_succ]; rfl) | rfl))) : W.heap[g]? = some o := hk h.out
theorem bkD (h : Aside0 (w0.heap[g]? = some o0)) (hb : Below W.heap.size W w') (hk : w0.heap[g]? = some o0 → W.heap[g]? = some o := by (intro h_; (repeat (first | (with_reducible exact h_) | (with_reducible refine blk_drewN ?_ _) | (with_reducible refine blk_drew ?_) | (with_reducible refine blk_alloc ?_ _) | apply putM | (apply farM; assumption) | exact h_)); all_goals (first | (simp only [List.setIfInBounds_toArray, List.set_cons_zero, List.set_cons_succ]; done) | (simp only [List.setIfInBounds_toArray, List.set_cons_zero, List.set_cons_succ]; rfl) | rfl))) : Aside0 (w'.heap[g]? = some o) := ⟨blk_below (hk h.out) hb⟩
theorem bkG {V : World} (h : Aside0 (w0.heap[g]? = some o0)) (hW : W = V) (hk : w0.heap[g]? = some o0 → W.heap[g]? = some o := by (intro h_; (repeat (first | (with_reducible exact h_) | (with_reducible refine blk_drewN ?_ _) | (with_reducible refine blk_drew ?_) | (with_reducible refine blk_alloc ?_ _) | apply putM | (apply farM; assumption) | exact h_)); all_goals (first | (simp only [List.setIfInBounds_toArray, List.set_cons_zero, List.set_cons_succ]; done) | (simp only [List.setIfInBounds_toArray, List.set_cons_zero, List.set_cons_succ]; rfl) | rfl))) : Aside0 (V.heap[g]? = some o) := by subst hW; exact ⟨hk h.out⟩
theorem nbL (h : Aside0 (w0.heap[g]? = some o0)) (hg : g' = W.heap.size) (hk : w0.heap[g]? = some o0 → ∃ o, W.heap[g]? = some o := by (intro h_; apply Exists.intro; (repeat (first | (with_reducible exact h_) | (with_reducible refine blk_drewN ?_ _) | (with_reducible refine blk_drew ?_) | (with_reducible refine blk_alloc ?_ _) | apply putM | (apply farM; assumption) | exact h_)); all_goals rfl)) : Aside0 (g ≠ g') := by
  obtain ⟨o, h1⟩ := hk h.out
  exact ⟨by rw [hg]; exact Nat.ne_of_lt (blk_lt h1)⟩
theorem nbR (h : Aside0 (w0.heap[g]? = some o0)) (hg : g' = W.heap.size) (hk : w0.heap[g]? = some o0 → ∃ o, W.heap[g]? = some o := by (intro h_; apply Exists.intro; (repeat (first | (with_reducible exact h_) | (with_reducible refine blk_drewN ?_ _) | (with_reducible refine blk_drew ?_) | (with_reducible refine blk_alloc ?_ _) | apply putM | (apply farM; assumption) | exact h_)); all_goals rfl)) : Aside0 (g' ≠ g) := ⟨(nbL h hg hk).out.symm⟩
theorem gwN {w w1 : World} (h : Aside0 (Below w.heap.size w w1)) (hg : g' = W.heap.size) (hk : Below w.heap.size w w1 → Below w.heap.size w W := by (intro h_; repeat (first | (with_reducible first | exact h_ | apply below_alloc | apply pw_below_drewN | apply below_drew1 | refine below_set ?_ (Aside0.out (by assumption))) | exact h_))) : Aside0 (w.heap.size ≤ g') := ⟨by rw [hg]; exact below_size (hk h.out)⟩
theorem hbD {w w1 w2 : World} (h : Aside0 (Below w.heap.size w w1)) (hb : Below W.heap.size W w2) (hk : Below w.heap.size w w1 → Below w.heap.size w W := by (intro h_; repeat (first | (with_reducible first | exact h_ | apply below_alloc | apply pw_below_drewN | apply below_drew1 | refine below_set ?_ (Aside0.out (by assumption))) | exact h_))) : Aside0 (Below w.heap.size w w2) := ⟨below_step (hk h.out) hb⟩
theorem hbG {w w1 V : World} (h : Aside0 (Below w.heap.size w w1)) (hW : W = V) (hk : Below w.heap.size w w1 → Below w.heap.size w W := by (intro h_; repeat (first | (with_reducible first | exact h_ | apply below_alloc | apply pw_below_drewN | apply below_drew1 | refine below_set ?_ (Aside0.out (by assumption))) | exact h_))) : Aside0 (Below w.heap.size w V) := by subst hW; exact ⟨hk h.out⟩
end
section
variable {α : Type} {d : Kd α} {A : Option Addr} {n : Nat} {xs : List α}
theorem kcU {w0 w1 W : World} (h : Aside0 (d.C w0 A n xs)) (hb : Aside0 (Below w0.heap.size w0 w1)) (hk : d.C w1 A n xs → d.C W A n xs := by (intro h_; repeat (first | exact h_ | (with_reducible refine Kd.C_alloc ?_ _) | (with_reducible refine Kd.C_drewN ?_ _) | (with_reducible refine Kd.C_drew ?_)))) : d.C W A n xs := hk (Kd.C_below h.out hb.out)
end
theorem kNil {p : Prop} (h : p := by first | exact Kd.S_nil _ _ _ _ _ | exact Kd.N_nil _ _ _ _ _ | exact Kd.V_nil _ _ _ _ _ | exact Kd.Q_nil _ _ _ _ _ | exact Kd.R_nil _ _ _ _ _) : p := h
theorem kdMv {p q : Prop} (h : Aside0 p) (hk : p → q := by (intro h_; (with_reducible repeat (first | apply Kd.S_alloc | apply Kd.S_drewN | apply Kd.S_drew | apply Kd.R_alloc | apply Kd.R_drewN | apply Kd.R_drew)); (first | exact h_ | exact Kd.R_mono h_ (fun k_ h_ h2_ => h_ (h2_.trans ((fun (A_ : Option Addr) (n_ m_ c_ : Nat) => (show (Value.slice A_ n_ c_).ownBlock = (Value.slice A_ m_ c_).ownBlock by cases A_ <;> rfl)) _ _ _ _)))))) : q := hk h.out
theorem drwOk {p : Prop} (h : p := by first | exact ⟨rfl, _, World.drewN_drewN _ _ _⟩ | exact ⟨rfl, _, Eq.trans (World.drewN_drewN _ _ _) (congrArg (World.drewN _) (Nat.add_assoc _ _ _))⟩) : p := h
section
variable {W : World} {g : Nat} {t : TypeId} {v0 v1 v2 v3 v4 v5 v6 v7 : Value}
theorem bc {cs : Array Value} {v : Value} (h : Aside0 (W.heap[g]? = some (.cells cs t (0, 0)))) (i : Nat) (hv : cs[i]? = some v := by rfl) : W.cell? ⟨g, i, none⟩ = some v := (blk_cell h.out i).trans hv
theorem bcf2 (h : Aside0 (W.heap[g]? = some (.cells #[v0, v1] t (0, 0)))) : W.cell? ⟨g, 0, none⟩ = some v0 ∧ W.cell? ⟨g, 1, none⟩ = some v1 ∧ W.frozen? ⟨g, 0, none⟩ = false ∧ W.frozen? ⟨g, 1, none⟩ = false := ⟨(blk_cell h.out 0).trans rfl, (blk_cell h.out 1).trans rfl, blk_frozen h.out 0, blk_frozen h.out 1⟩
theorem bcf4 (h : Aside0 (W.heap[g]? = some (.cells #[v0, v1, v2, v3] t (0, 0)))) : W.cell? ⟨g, 0, none⟩ = some v0 ∧ W.cell? ⟨g, 1, none⟩ = some v1 ∧ W.cell? ⟨g, 2, none⟩ = some v2 ∧ W.cell? ⟨g, 3, none⟩ = some v3 ∧ W.frozen? ⟨g, 0, none⟩ = false ∧ W.frozen? ⟨g, 1, none⟩ = false ∧ W.frozen? ⟨g, 2, none⟩ = false ∧ W.frozen? ⟨g, 3, none⟩ = false := ⟨(blk_cell h.out 0).trans rfl, (blk_cell h.out 1).trans rfl, (blk_cell h.out 2).trans rfl, (blk_cell h.out 3).trans rfl, blk_frozen h.out 0, blk_frozen h.out 1, blk_frozen h.out 2, blk_frozen h.out 3⟩
theorem bcf6 (h : Aside0 (W.heap[g]? = some (.cells #[v0, v1, v2, v3, v4, v5] t (0, 0)))) : W.cell? ⟨g, 0, none⟩ = some v0 ∧ W.cell? ⟨g, 1, none⟩ = some v1 ∧ W.cell? ⟨g, 2, none⟩ = some v2 ∧ W.cell? ⟨g, 3, none⟩ = some v3 ∧ W.cell? ⟨g, 4, none⟩ = some v4 ∧ W.cell? ⟨g, 5, none⟩ = some v5 ∧ W.frozen? ⟨g, 0, none⟩ = false ∧ W.frozen? ⟨g, 1, none⟩ = false ∧ W.frozen? ⟨g, 2, none⟩ = false ∧ W.frozen? ⟨g, 3, none⟩ = false ∧ W.frozen? ⟨g, 4, none⟩ = false ∧ W.frozen? ⟨g, 5, none⟩ = false := ⟨(blk_cell h.out 0).trans rfl, (blk_cell h.out 1).trans rfl, (blk_cell h.out 2).trans rfl, (blk_cell h.out 3).trans rfl, (blk_cell h.out 4).trans rfl, (blk_cell h.out 5).trans rfl, blk_frozen h.out 0, blk_frozen h.out 1, blk_frozen h.out 2, blk_frozen h.out 3, blk_frozen h.out 4, blk_frozen h.out 5⟩
end
section
variable {P : Program} {ops : Array Oper} {Q : Exit → Act → World → Prop} {md : Region.Mode} {S : World → Prop} {ds : List Nat}
theorem goL {rest : List Oper} {oi : Oper} {a : Act} {w : World} (N : Option Tmp) {f : FuncId} {fn : Func} {xs : Array Operand} {ts : Array TypeId} (hf : P.funcs[f]? = some fn) (args : Array Value)
    (h : Calls P f args w fun e w' => ∃ v, e = .returned v ∧ wpList P ops Q rest (a.put N v) w') (hd : oi.dst = N := by rfl) (hg : oi.guard = none := by rfl) (hop : oi.op = .call { callee := .value (.func f), args := xs, argTypes := ts } := by rfl) (hname : (fn.name == "runtime.NumGoroutine") = false := by kernel_rfl) (hb : fn.body.isSome = true := by rfl)
    (hargs : xs.map a.eval = args := by exact argsOk) : wpList P ops Q (oi :: rest) a w := goesL_ N hd hg hf hname hb args hop hargs h
theorem pureT (i : Nat) {n : Tmp} {oi : Oper} {v : Value} {fuel : Nat} {l : Array Bool} {a : Act} {w : World} {a' : Act}
    (h : wpAnyLast P md ops Q S ds fuel (l.setIfInBounds i true) a' w) (hi : ops[i]? = some oi := by rfl) (hN : oi.dst = some n := by rfl)
    (hc : anyB md ops l (l.setIfInBounds i true) i = true := by exact any_of HT_.out (by kernel_rfl))
    (hQ : ∀ c a w, Q (.panic c) (a.put oi.dst v) w → Q (.panic c) a w := by exact fun _ _ _ h => h)
    (hw : Region.wanted oi (yielded ops a.tmps) = true := by rfl) (hy : ∀ w', (execOp a.eval oi).run P w' = .ok (.value v) w' := by (intro w'; go_simp; with_reducible rfl))
    (ha : a.put (some n) v = a' := by (simp only [Act.put, List.setIfInBounds_toArray, List.set_cons_zero, List.set_cons_succ, i64_w, i32_w]; rfl)) : wpAnyLast P md ops Q S ds (fuel + 1) l a w :=
  pure_ _ hi hN hc hQ (Or.inl ⟨hw, hy⟩) ha h
theorem pureV (i : Nat) {n : Tmp} {oi : Oper} {fuel : Nat} {l : Array Bool} {a : Act} {w : World} {a' : Act}
    (h : wpAnyLast P md ops Q S ds fuel (l.setIfInBounds i true) a' w) (hi : ops[i]? = some oi := by rfl) (hN : oi.dst = some n := by rfl)
    (hc : anyB md ops l (l.setIfInBounds i true) i = true := by exact any_of HT_.out (by kernel_rfl))
    (hQ : ∀ c a w, Q (.panic c) (a.put oi.dst undef) w → Q (.panic c) a w := by exact fun _ _ _ h => h)
    (hw : Region.wanted oi (yielded ops a.tmps) = false := by rfl)
    (ha : a.put (some n) undef = a' := by (simp only [Act.put, List.setIfInBounds_toArray, List.set_cons_zero, List.set_cons_succ, i64_w, i32_w]; rfl)) : wpAnyLast P md ops Q S ds (fuel + 1) l a w :=
  pure_ _ hi hN hc hQ (Or.inr ⟨hw, rfl⟩) ha h
theorem takeT (i : Nat) {n : Tmp} {oi : Oper} {v : Value} {fuel : Nat} {l : Array Bool} {a : Act} {w : World} {a' : Act} (hS : S w)
    (h : wpAnyLast P md ops Q S ds fuel (l.setIfInBounds i true) a' w) (hi : ops[i]? = some oi := by rfl) (hN : oi.dst = some n := by rfl)
    (hc : takeB md ops ds l (l.setIfInBounds i true) i = true := by exact take_ofW HT_.out HW_.out (by kernel_rfl))
    (hQ : ∀ c a w, Q (.panic c) (a.put oi.dst v) w → Q (.panic c) a w := by exact fun _ _ _ h => h)
    (hw : Region.wanted oi (yielded ops a.tmps) = true := by rfl) (hy : ∀ w', S w' → (execOp a.eval oi).run P w' = .ok (.value v) w' := by (intro w' h_; (repeat (obtain ⟨_, h_⟩ := h_)); go_simp; with_reducible rfl))
    (ha : a.put (some n) v = a' := by (simp only [Act.put, List.setIfInBounds_toArray, List.set_cons_zero, List.set_cons_succ, i64_w, i32_w]; rfl)) : wpAnyLast P md ops Q S ds (fuel + 1) l a w :=
  take_ _ hi hN hc hQ (Or.inl ⟨hw, hy⟩) hS ha h
end
section
variable {P : Program} {ops : Array Oper} {Q : Exit → Act → World → Prop} {md : Region.Mode} {S : World → Prop} {ds : List Nat}
theorem oneT (i : Nat) {N : Option Tmp} {oi : Oper} {fuel : Nat} {l : Array Bool} {a : Act} {w : World}
    (h : ∀ K : Act → World → Prop, Shut (∀ a' w', S w' → (S w' → wpAnyLast P md ops Q S ds fuel (l.setIfInBounds i true) a' w') → K a' w') → if Region.wanted oi (yielded ops a.tmps) = true then Oper.wp P oi a w K Q else K (a.put N undef) w)
    (hi : ops[i]? = some oi := by rfl) (hN : oi.dst = N := by rfl) (hc : readyB md ops l (l.setIfInBounds i true) i = true := by exact one_of HT_.out (by kernel_rfl)) (hd : i ∉ ds := by decide) :
    wpAnyLast P md ops Q S ds (fuel + 1) l a w := one_ _ hi hN hc hd h
theorem putT {fuel : Nat} {l : Array Bool} {a a' : Act} {w : World} (h : wpAnyLast P md ops Q S ds fuel l a' w)
    (ha : a = a' := by (show Act.put _ _ _ = _; simp only [Act.put, List.setIfInBounds_toArray, List.set_cons_zero, List.set_cons_succ, i64_w, i32_w]; rfl)) : wpAnyLast P md ops Q S ds fuel l a w := norm_ ha h
end
end Go.Proofs.YtecjoofjiockkaaDoor.Ext
