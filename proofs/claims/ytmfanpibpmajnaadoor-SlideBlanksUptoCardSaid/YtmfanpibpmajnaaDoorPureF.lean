/-
  SlideSlides and SlideOwn, in plain Lean.
-/
import Derived.Test.YtmfanpibpmajnaaDoorPureE
import Derived.Test.YtmfanpibpmajnaaDoorEKind
namespace Go.Proofs.YtmfanpibpmajnaaDoor.Pure
open Go.RowKit Go.Proofs.YtmfanpibpmajnaaDoor.Pp Go.Proofs.YtmfanpibpmajnaaDoor.Ext Go.Proofs.YtmfanpibpmajnaaDoorW.PrintWords Go.Proofs.YtmfanpibpmajnaaDoorW.PrintLast Go.Proofs.YtmfanpibpmajnaaDoorW.PrintMore
theorem same_loop (l : List S43) (hl : l.length ≤ 4000000000) (d : Nat) : ∀ i : Nat, i + d = l.length → Ev (fun k => selvagelaw09_same.l0 k l l (i : Int)) true := by
  induction d with
  | zero =>
    intro i h
    refine Ev.step (G := fun _ => some true) (fun k => ?_) (Ev.pure _)
    rw [selvagelaw09_same.l0, if_neg (by omega)]
  | succ d ih =>
    intro i h
    have w1 : wrap64 ((i : Int) + 1) = ((i + 1 : Nat) : Int) := w_add i 1 (by omega)
    refine Ev.step (fun k => ?_) (ih (i + 1) (by omega))
    rw [selvagelaw09_same.l0, w1, if_pos (by omega), if_pos (by omega), if_pos (by omega), if_neg (by simp)]
theorem same_at (l : List S43) (hl : l.length ≤ 4000000000) : Ev (fun k => selvagelaw09_same.f k l l) true :=
  Ev.same (fun k => by unfold selvagelaw09_same.f; rw [if_pos rfl]; rfl) (same_loop l hl l.length 0 (by omega))
theorem sure_60 : selvagelaw09_sure.f 60 = some true := by decide +kernel
theorem ev_sure : Ev (fun k => selvagelaw09_sure.f k) true := by
  refine ⟨60, fun k hk => ?_⟩
  obtain ⟨d, rfl⟩ : ∃ d, k = 60 + d := ⟨k - 60, by omega⟩
  induction d with
  | zero => exact sure_60
  | succ d ih => exact selvagelaw09_sure.mono (60 + d) _ (ih (by omega))
theorem num_at (o : Option Int) : selvagelaw09_num.f o = some (num o) := rfl
theorem sum_wt (l : List S43) : l.length ≤ (l.map Ext.wt43).sum := by
  induction l with
  | nil => exact Nat.zero_le _
  | cons x l ih => rw [List.map_cons, List.sum_cons, List.length_cons]; have : Ext.wt43 x = 5 := rfl; omega
theorem slides_ev (s : List S43) (la lb : List Int) (hs : s.length ≤ 2000000000) : Ev (fun k => selvagelaw09_SlideSlides.f k s la lb) true := by
  obtain ⟨r, hr, p1, p2⟩ := slide_at s la lb hs
  refine Ev.same (G := fun k => (slide_Slide.f k s la lb).bind fun bt => ((selvageref09_Slide.f k s la lb).bind fun bu => ((selvagelaw09_same.f k bt.1 bu.1).bind fun t => (if t = true then ((selvagelaw09_num.f bt.2).bind fun t2 => (if t2 = bu.2 then ((selvagelaw09_same.f k s s).bind fun t3 => (if t3 = true then ((selvagelaw09_sure.f k).bind fun t4 => (some t4)) else (some false))) else (some false))) else (some false))))) (fun k => ?_) ?_
  · unfold selvagelaw09_SlideSlides.f
    rw [if_pos (by simp; omega), Option.bind_some, List.nil_append]
  · refine Ev.bind p1 (Ev.bind p2 (Ev.bind (same_at r.1 (by omega)) ?_))
    refine Ev.same (G := fun k => (selvagelaw09_same.f k s s).bind fun t3 => (if t3 = true then ((selvagelaw09_sure.f k).bind fun t4 => (some t4)) else (some false))) (fun k => ?_) ?_
    · rw [if_pos rfl, num_at, Option.bind_some, if_pos rfl]
    · refine Ev.bind (same_at s (by omega)) ?_
      refine Ev.same (G := fun k => (selvagelaw09_sure.f k).bind fun t4 => (some t4)) (fun k => by rw [if_pos rfl]) ?_
      exact Ev.bind ev_sure (Ev.pure _)
theorem own_loop (s : List S43) (la lb : List Int) (hs : s.length ≤ 2000000000) (d : Nat) : ∀ (t : List S43) (i : Nat), i + d = t.length → t.length ≤ 4000000000 → Ev (fun k => selvagelaw09_SlideOwn.l0 k s la lb t (i : Int)) true := by
  induction d with
  | zero =>
    intro t i h hl
    obtain ⟨r, hr, p1, p2⟩ := slide_at s la lb hs
    have hlen : (t ++ [(⟨(-8), 0, 0, 0⟩ : S43), (⟨(-8), 0, 0, 0⟩ : S43)]).length = t.length + 2 := by rw [List.length_append]; rfl
    have w : wrap64 (((t ++ [(⟨(-8), 0, 0, 0⟩ : S43), (⟨(-8), 0, 0, 0⟩ : S43)]).length : Int) - 1) = ((t.length + 1 : Nat) : Int) := by rw [hlen, w64' (by omega) (by omega)]; omega
    have hrd : (rd_T43 (t ++ [(⟨(-8), 0, 0, 0⟩ : S43), (⟨(-8), 0, 0, 0⟩ : S43)]) ((t.length + 1 : Nat) : Int)).f0 = -8 := by
      unfold rd_T43
      rw [Int.toNat_natCast, List.getD_eq_getElem?_getD, List.getElem?_append_right (by omega), Nat.add_sub_cancel_left]; rfl
    refine Ev.step (G := fun k => (slide_Slide.f k s la lb).bind fun bt => ((selvageref09_Slide.f k s la lb).bind fun bu => ((selvagelaw09_same.f k bt.1 bu.1).bind fun t4 => (if t4 = true then ((selvagelaw09_sure.f k).bind fun t5 => (some t5)) else (some false))))) (fun k => ?_) ?_
    · rw [selvagelaw09_SlideOwn.l0, if_neg (by omega), Option.bind_some, if_pos (by simp; omega), Option.bind_some]
      simp only [w, hrd]
      rw [if_pos (show (0 : Int) ≤ ((t.length + 1 : Nat) : Int) by omega), if_pos (show ((t.length + 1 : Nat) : Int) < (((t ++ [(⟨(-8), 0, 0, 0⟩ : S43), (⟨(-8), 0, 0, 0⟩ : S43)]).length : Nat) : Int) by rw [hlen]; omega)]
      simp only [if_true]
    · refine Ev.bind p1 (Ev.bind p2 (Ev.bind (same_at r.1 (by omega)) ?_))
      refine Ev.same (G := fun k => (selvagelaw09_sure.f k).bind fun t4 => (some t4)) (fun k => by rw [if_pos rfl]) ?_
      exact Ev.bind ev_sure (Ev.pure _)
  | succ d ih =>
    intro t i h hl
    have w1 : wrap64 ((i : Int) + 1) = ((i + 1 : Nat) : Int) := w_add i 1 (by omega)
    refine Ev.step (fun k => ?_) (ih (t.set i (⟨(-7), 0, 0, 0⟩ : S43)) (i + 1) (by rw [List.length_set]; omega) (by rw [List.length_set]; omega))
    rw [selvagelaw09_SlideOwn.l0, w1, if_pos (by omega), if_pos (by omega), Int.toNat_natCast]
theorem own_ev (s : List S43) (la lb : List Int) (hs : s.length ≤ 2000000000) : Ev (fun k => selvagelaw09_SlideOwn.f k s la lb) true := by
  obtain ⟨r, hr, p1, p2⟩ := slide_at s la lb hs
  exact Ev.bind p1 (own_loop s la lb hs r.1.length r.1 0 (by omega) (by omega))
theorem SlideSlides : ∀ (a0 : List S43) (a1 a2 : List Int), (∀ z ∈ a0, Ext.ok43 z) → (∀ z ∈ a1, (Lit.int IntKind.i64 z).wf = true) → (∀ z ∈ a2, (Lit.int IntKind.i64 z).wf = true) → ((a0.map Ext.wt43).sum + 1) + ((a1.map (fun _ => 1)).sum + 1) + ((a2.map (fun _ => 1)).sum + 1) ≤ 1048576 → ∃ k, selvagelaw09_SlideSlides.f k a0 a1 a2 = some true := by
  intro a0 a1 a2 _ _ _ hb
  have := sum_wt a0
  exact (slides_ev a0 a1 a2 (by omega)).get
theorem SlideOwn : ∀ (a0 : List S43) (a1 a2 : List Int), (∀ z ∈ a0, Ext.ok43 z) → (∀ z ∈ a1, (Lit.int IntKind.i64 z).wf = true) → (∀ z ∈ a2, (Lit.int IntKind.i64 z).wf = true) → ((a0.map Ext.wt43).sum + 1) + ((a1.map (fun _ => 1)).sum + 1) + ((a2.map (fun _ => 1)).sum + 1) ≤ 1048576 → ∃ k, selvagelaw09_SlideOwn.f k a0 a1 a2 = some true := by
  intro a0 a1 a2 _ _ _ hb
  have := sum_wt a0
  exact (own_ev a0 a1 a2 (by omega)).get
end Go.Proofs.YtmfanpibpmajnaaDoor.Pure
