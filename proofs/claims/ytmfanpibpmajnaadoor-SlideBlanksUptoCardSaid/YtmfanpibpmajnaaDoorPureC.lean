/-
  Edit scripts, in plain Lean: the program's Normal.
-/
import Derived.Test.YtmfanpibpmajnaaDoorPureB
namespace Go.Proofs.YtmfanpibpmajnaaDoor.Pure
open Go.RowKit Go.Proofs.YtmfanpibpmajnaaDoor.Pp Go.Proofs.YtmfanpibpmajnaaDoor.Ext Go.Proofs.YtmfanpibpmajnaaDoorW.PrintWords Go.Proofs.YtmfanpibpmajnaaDoorW.PrintLast Go.Proofs.YtmfanpibpmajnaaDoorW.PrintMore
theorem set_last (d : List S43) (x y : S43) : (d ++ [x]).set d.length y = d ++ [y] := by
  rw [List.set_append_right _ _ (Nat.le_refl _), Nat.sub_self]; rfl
theorem rd_last (d : List S43) (x : S43) : rd_T43 (d ++ [x]) (d.length : Int) = x := by
  unfold rd_T43
  rw [Int.toNat_natCast, List.getD_eq_getElem?_getD, List.getElem?_append_right (Nat.le_refl _), Nat.sub_self]; rfl
theorem norm_app (k : Nat) (L s : List S43) (i : Nat) (x c : S43) (hi : i < s.length) (hs : s.length ≤ 4000000000) (hL : 0 < L.length) (hL2 : L.length ≤ 4000000001) (hx : rd_T43 L ((L.length - 1 : Nat) : Int) = x) (hc : rd_T43 s (i : Int) = c) (hne : ¬ wrap64 (x.f0 + x.f1) = c.f0) :
    edits_Normal.l0 (k + 1) L s (s.length : Int) (i : Int) = edits_Normal.l0 k (L ++ [⟨c.f0, c.f1, c.f2, c.f3⟩]) s (s.length : Int) ((i + 1 : Nat) : Int) := by
  have w1 : wrap64 ((i : Int) + 1) = ((i + 1 : Nat) : Int) := w_add i 1 (by omega)
  have wl : wrap64 ((L.length : Int) - 1) = ((L.length - 1 : Nat) : Int) := by rw [w64' (by omega) (by omega)]; omega
  rw [edits_Normal.l0, if_pos (by omega), if_pos (by omega), if_pos (by omega), wl, hx, hc, w1, if_pos (by omega), if_pos (by omega), if_pos (by omega), if_neg hne, if_pos (by omega)]
theorem norm_mrg (k : Nat) (L s : List S43) (i : Nat) (x c y _z : S43) (L1 L2 : List S43) (hi : i < s.length) (hs : s.length ≤ 4000000000) (hL : 0 < L.length) (hL2 : L.length ≤ 4000000001) (hx : rd_T43 L ((L.length - 1 : Nat) : Int) = x) (hc : rd_T43 s (i : Int) = c) (he : wrap64 (x.f0 + x.f1) = c.f0)
    (h1 : L.set (L.length - 1) ⟨x.f0, wrap64 (x.f1 + c.f1), x.f2, x.f3⟩ = L1) (hy : rd_T43 L1 ((L.length - 1 : Nat) : Int) = y) (h2 : L1.set (L.length - 1) ⟨y.f0, y.f1, y.f2, wrap64 (y.f3 + c.f3)⟩ = L2) :
    edits_Normal.l0 (k + 1) L s (s.length : Int) (i : Int) = edits_Normal.l0 k L2 s (s.length : Int) ((i + 1 : Nat) : Int) := by
  have w1 : wrap64 ((i : Int) + 1) = ((i + 1 : Nat) : Int) := w_add i 1 (by omega)
  have wl : wrap64 ((L.length : Int) - 1) = ((L.length - 1 : Nat) : Int) := by rw [w64' (by omega) (by omega)]; omega
  rw [edits_Normal.l0, if_pos (by omega), if_pos (by omega), if_pos (by omega), wl, hx, hc, w1, if_pos (by omega), if_pos (by omega), if_pos (by omega), if_pos he, Int.toNat_natCast, h1, Option.bind_some, hy, h2]
theorem norm_loop (s : List S43) (n m : Int) (hn : n ≤ 4194304) (hm : m ≤ 4194304) (hs : s.length ≤ 4000000000) (d : Nat) : ∀ (i : Nat) (dn : List S43) (pa pb qa qb : Int), i + d = s.length → validP n m (s.drop i) qa qb → 0 ≤ pa → pa ≤ qa → qa ≤ n → 0 ≤ pb → pb ≤ qb → qb ≤ m → (pa < qa ∨ pb < qb) → dn.length ≤ i →
    Ev (fun k => edits_Normal.l0 k (dn ++ [⟨pa, qa - pa, pb, qb - pb⟩]) s (s.length : Int) (i : Int)) (dn ++ nrm (s.drop i) pa pb qa qb, none) := by
  induction d with
  | zero =>
    intro i dn pa pb qa qb hd hv a1 a2 a3 a4 a5 a6 a7 a8
    rw [List.drop_of_length_le (by omega)]
    refine Ev.step (G := fun _ => some (dn ++ nrm [] pa pb qa qb, none)) (fun k => ?_) (Ev.pure _)
    simp only [edits_Normal.l0, nrm]
    rw [if_neg (by omega), gap_some a7]
  | succ d ih =>
    intro i dn pa pb qa qb hd hv a1 a2 a3 a4 a5 a6 a7 a8
    rw [drop43 s i (by omega)] at hv ⊢
    obtain ⟨⟨h1, h2, h3, h4, h5, h6, h7, h8, h9, h10⟩, hv2⟩ := hv
    generalize hc : rd_T43 s (i : Int) = c at h1 h2 h3 h4 h5 h6 h7 h8 h9 h10 hv2 ⊢
    have hl : (dn ++ [(⟨pa, qa - pa, pb, qb - pb⟩ : S43)]).length = dn.length + 1 := by rw [List.length_append, List.length_singleton]
    have hx : rd_T43 (dn ++ [(⟨pa, qa - pa, pb, qb - pb⟩ : S43)]) (((dn ++ [(⟨pa, qa - pa, pb, qb - pb⟩ : S43)]).length - 1 : Nat) : Int) = ⟨pa, qa - pa, pb, qb - pb⟩ := by rw [hl, Nat.add_sub_cancel]; exact rd_last _ _
    have wq : wrap64 (pa + (qa - pa)) = qa := by rw [w64' (by omega) (by omega)]; omega
    by_cases q : qa < c.f0
    · have := ih (i + 1) (dn ++ [⟨pa, qa - pa, pb, qb - pb⟩]) c.f0 c.f2 (c.f0 + c.f1) (c.f2 + c.f3) (by omega) hv2 (by omega) (by omega) (by omega) (by omega) (by omega) (by omega) (by omega) (by omega)
      have en : dn ++ nrm (c :: s.drop (i + 1)) pa pb qa qb = (dn ++ [⟨pa, qa - pa, pb, qb - pb⟩]) ++ nrm (s.drop (i + 1)) c.f0 c.f2 (c.f0 + c.f1) (c.f2 + c.f3) := by
        simp only [nrm]; rw [if_pos q, gap_some a7, List.append_assoc]
      have ec : (⟨c.f0, c.f0 + c.f1 - c.f0, c.f2, c.f2 + c.f3 - c.f2⟩ : S43) = ⟨c.f0, c.f1, c.f2, c.f3⟩ := by rw [show c.f0 + c.f1 - c.f0 = c.f1 by omega, show c.f2 + c.f3 - c.f2 = c.f3 by omega]
      rw [en]
      rw [ec] at this
      exact Ev.step (fun k => norm_app k _ s i _ c (by omega) hs (by omega) (by omega) hx hc (by show ¬ wrap64 (pa + (qa - pa)) = c.f0; rw [wq]; omega)) this
    · have := ih (i + 1) dn pa pb (c.f0 + c.f1) (c.f2 + c.f3) (by omega) hv2 (by omega) (by omega) (by omega) (by omega) (by omega) (by omega) (by omega) (by omega)
      have en : nrm (c :: s.drop (i + 1)) pa pb qa qb = nrm (s.drop (i + 1)) pa pb (c.f0 + c.f1) (c.f2 + c.f3) := by simp only [nrm]; rw [if_neg q]
      rw [en]
      refine Ev.step (fun k => norm_mrg k _ s i _ c ⟨pa, c.f0 + c.f1 - pa, pb, qb - pb⟩ c (dn ++ [⟨pa, c.f0 + c.f1 - pa, pb, qb - pb⟩]) (dn ++ [⟨pa, c.f0 + c.f1 - pa, pb, c.f2 + c.f3 - pb⟩]) (by omega) hs (by omega) (by omega) hx hc (by show wrap64 (pa + (qa - pa)) = c.f0; rw [wq]; omega) ?_ ?_ ?_) this
      · rw [hl, Nat.add_sub_cancel, set_last]
        show dn ++ [(⟨pa, wrap64 (qa - pa + c.f1), pb, qb - pb⟩ : S43)] = _
        rw [w64' (by omega) (by omega), show qa - pa + c.f1 = c.f0 + c.f1 - pa by omega]
      · rw [hl, Nat.add_sub_cancel]; exact rd_last _ _
      · rw [hl, Nat.add_sub_cancel, set_last]
        show dn ++ [(⟨pa, c.f0 + c.f1 - pa, pb, wrap64 (qb - pb + c.f3)⟩ : S43)] = _
        rw [w64' (by omega) (by omega), show qb - pb + c.f3 = c.f2 + c.f3 - pb by omega]
theorem norm_at (s : List S43) (hs : s.length ≤ 4000000000) (n m : Int) (hn0 : 0 ≤ n) (hm0 : 0 ≤ m) : Ev (fun k => edits_Normal.f k s n m) (normS s n m) := by
  refine Ev.bind (valid_at s hs n m hn0 hm0) ?_
  unfold normS
  cases hv : validS s n m with
  | some e =>
    refine Ev.same (G := fun _ => some ([], some e)) (fun k => ?_) ?_
    · rw [if_neg (by simp)]; rfl
    · rw [if_neg (by simp)]; exact Ev.pure _
  | none =>
    obtain ⟨hn, hm, hp⟩ := validS_none hv
    rw [if_pos (show (none : Option Int).isNone = true from rfl)]
    refine Ev.same (G := fun k => edits_Normal.l0 k [] s (s.length : Int) 0) (fun k => by rw [if_pos (show (none : Option Int).isNone = true from rfl)]) ?_
    cases s with
    | nil =>
      refine Ev.step (G := fun _ => some ([], none)) (fun k => ?_) ?_
      · simp only [edits_Normal.l0]; rw [if_neg (by simp)]
      · show Ev _ (gap 0 0 0 0, none)
        rw [gap_none]; exact Ev.pure _
    | cons c t =>
      obtain ⟨⟨h1, h2, h3, h4, h5, h6, h7, h8, h9, h10⟩, hv2⟩ := hp
      have hl : (c :: t).length = t.length + 1 := rfl
      have := norm_loop (c :: t) n m hn hm hs t.length 1 [] c.f0 c.f2 (c.f0 + c.f1) (c.f2 + c.f3) (by omega) hv2 (by omega) (by omega) (by omega) (by omega) (by omega) (by omega) (by omega) (by simp)
      have ec : (⟨c.f0, c.f0 + c.f1 - c.f0, c.f2, c.f2 + c.f3 - c.f2⟩ : S43) = ⟨c.f0, c.f1, c.f2, c.f3⟩ := by rw [show c.f0 + c.f1 - c.f0 = c.f1 by omega, show c.f2 + c.f3 - c.f2 = c.f3 by omega]
      have en : nrm (c :: t) 0 0 0 0 = nrm t c.f0 c.f2 (c.f0 + c.f1) (c.f2 + c.f3) := by
        simp only [nrm]
        by_cases q : 0 < c.f0
        · rw [if_pos q, gap_none, List.nil_append]
        · rw [if_neg q, show c.f0 = 0 by omega, show c.f2 = 0 by omega]
      rw [en]
      rw [ec, List.nil_append, List.nil_append, List.drop_one, List.tail_cons] at this
      refine Ev.step (fun k => ?_) this
      have hw : wrap64 ((([] : List S43).length : Int) - 1) = -1 := by rw [w64' (by simp) (by simp)]; simp
      have hw2 : wrap64 (0 + 1) = 1 := by rw [w64' (by omega) (by omega)]; omega
      have hr : rd_T43 (c :: t) 0 = c := rfl
      simp only [edits_Normal.l0, hw, hw2, hr]
      rw [if_pos (by rw [hl]; omega), if_pos (by omega), if_pos (by rw [hl]; omega), if_neg (by omega), if_pos (by simp)]
      rfl
end Go.Proofs.YtmfanpibpmajnaaDoor.Pure
