/-
  HunksValid, in plain Lean.
-/
import Derived.Test.YtecjoofjiockkaaGreatDoorPureM
import Derived.Test.YtecjoofjiockkaaGreatDoorPp19
namespace Go.Proofs.YtecjoofjiockkaaGreatDoor.Pure
open Go.RowKit Go.Proofs.YtecjoofjiockkaaGreatDoor.Pp Go.Proofs.YtecjoofjiockkaaGreatDoor.Ext Go.Proofs.YtecjoofjiockkaaGreatDoorW.PrintWords Go.Proofs.YtecjoofjiockkaaGreatDoorW.PrintLast Go.Proofs.YtecjoofjiockkaaGreatDoorW.PrintMore
set_option linter.unusedVariables false
set_option linter.unusedSimpArgs false
theorem valid_loop (l : List Hunk) (hl : Hs l) (d : Nat) : ∀ i : Nat, i + d = l.length → Ev (fun k => selvagelaw10_HunksValid.l0 k l (i : Int)) true := by
  have h1 := hl.count
  have hrows : ∀ h ∈ l, h.f5.length ≤ 1048576 := fun h hm => (hl.all h hm).rows
  induction d with
  | zero =>
    intro i h
    refine Ev.step (fun k => by rw [selvagelaw10_HunksValid.l0, if_neg (by omega)]) (Ev.bind (twins_at l (by omega) (fun h hm => by have := hrows h hm; omega)) (Ev.bind (order_at l hl) (Ev.bind (num_ev _) (Ev.bind (r_order_at l hl) ?_))))
    exact Ev.same (fun k => if_pos rfl) (Ev.bind (sameAll_at l (by omega) (fun h hm => by have := hrows h hm; omega)) (Ev.same (fun k => if_pos rfl) (Ev.bind ev_works (Ev.pure _))))
  | succ d ih =>
    intro i h
    have hi : i < l.length := by omega
    have w1 : wrap64 ((i : Int) + 1) = ((i + 1 : Nat) : Int) := w_add i 1 (by omega)
    have hp := p_hunk _ (hl.all _ (rd_mem l i hi))
    have hr := r_hunk _ (hl.all _ (rd_mem l i hi))
    unfold validF at hp
    refine Ev.step (fun k => by rw [selvagelaw10_HunksValid.l0, if_pos (by omega), if_pos (by omega), rd_hunk, hp, Option.bind_some, w1]) (Ev.bind (num_ev _) (Ev.bind hr ?_))
    refine Ev.same (fun k => if_pos ?_) (ih (i + 1) (by omega))
    unfold numE
    split <;> rfl
theorem HunksValid : ∀ (a0 : List Hunk), (∀ z ∈ a0, Ext.ok29 z) → ((a0.map Ext.wt29).sum + 1) ≤ 1048576 → ∃ k, selvagelaw10_HunksValid.f k a0 = some true := by
  intro a0 hok hb
  exact Ev.rounds (valid_loop a0 (hs_of a0 hok hb) a0.length 0 (by omega))
end Go.Proofs.YtecjoofjiockkaaGreatDoor.Pure
