/-
  Edit scripts, in plain Lean: whether one leads from a row to another: the program's and the document's answers are the same.
-/
import Derived.Test.YtmfanpibpmajnaaDoorPureC
import Derived.Test.YtmfanpibpmajnaaDoorEFits
import Derived.Test.YtmfanpibpmajnaaDoorPp13
namespace Go.Proofs.YtmfanpibpmajnaaDoor.Pure
open Go.RowKit Go.Proofs.YtmfanpibpmajnaaDoor.Pp Go.Proofs.YtmfanpibpmajnaaDoor.Ext Go.Proofs.YtmfanpibpmajnaaDoorW.PrintWords Go.Proofs.YtmfanpibpmajnaaDoorW.PrintLast Go.Proofs.YtmfanpibpmajnaaDoorW.PrintMore
def eqRun (la lb : List Int) : Int → Int → Nat → Bool
  | _, _, 0 => true
  | a, b, d + 1 => (rd la a == rd lb b) && eqRun la lb (a + 1) (b + 1) d
theorem cut_succ (l : List Int) (a d : Nat) (h : a + (d + 1) ≤ l.length) : cutI l (a : Int) ((a : Int) + ((d + 1 : Nat) : Int)) = rd l (a : Int) :: cutI l ((a + 1 : Nat) : Int) (((a + 1 : Nat) : Int) + (d : Int)) := by
  unfold cutI rd
  rw [show ((a : Int) + ((d + 1 : Nat) : Int)).toNat = a + 1 + d by omega, show (((a + 1 : Nat) : Int) + (d : Int)).toNat = a + 1 + d by omega, Int.toNat_natCast, Int.toNat_natCast]
  have hl : a < (l.take (a + 1 + d)).length := by rw [List.length_take]; omega
  rw [List.drop_eq_getElem_cons hl, List.getElem_take, List.getD_eq_getElem?_getD, List.getElem?_eq_getElem (by omega), Option.getD_some]
theorem cut_none (l : List Int) (a : Nat) : cutI l (a : Int) ((a : Int) + ((0 : Nat) : Int)) = [] := by
  unfold cutI
  exact List.drop_of_length_le (by rw [List.length_take]; omega)
theorem cut_eq (la lb : List Int) (d : Nat) : ∀ a b : Nat, a + d ≤ la.length → b + d ≤ lb.length → decide (cutI la (a : Int) ((a : Int) + (d : Int)) = cutI lb (b : Int) ((b : Int) + (d : Int))) = eqRun la lb (a : Int) (b : Int) d := by
  induction d with
  | zero => intro a b _ _; rw [cut_none, cut_none]; rfl
  | succ d ih =>
    intro a b ha hb
    have := ih (a + 1) (b + 1) (by omega) (by omega)
    rw [cut_succ la a d ha, cut_succ lb b d hb]
    simp only [eqRun]
    rw [show (a : Int) + 1 = ((a + 1 : Nat) : Int) by omega, show (b : Int) + 1 = ((b + 1 : Nat) : Int) by omega, ← this]
    by_cases h : rd la (a : Int) = rd lb (b : Int)
    · rw [h]; simp
    · simp [h]
theorem slEq_loop (x y : List Int) (hx : x.length = y.length) (hl : x.length ≤ 4000000000) (d : Nat) : ∀ i : Nat, i + d = x.length → Ev (fun k => slices_Equal_int_int.l0 k x y (x.length : Int) (i : Int)) (decide (x.drop i = y.drop i)) := by
  induction d with
  | zero =>
    intro i h
    rw [List.drop_of_length_le (by omega), List.drop_of_length_le (by omega)]
    refine Ev.step (G := fun _ => some true) (fun k => ?_) (Ev.pure _)
    rw [slices_Equal_int_int.l0, if_neg (by omega)]
  | succ d ih =>
    intro i h
    have w1 : wrap64 ((i : Int) + 1) = ((i + 1 : Nat) : Int) := w_add i 1 (by omega)
    have ex : x.drop i = rd x (i : Int) :: x.drop (i + 1) := by
      unfold rd
      rw [Int.toNat_natCast, List.getD_eq_getElem?_getD, List.getElem?_eq_getElem (by omega)]
      exact List.drop_eq_getElem_cons (by omega)
    have ey : y.drop i = rd y (i : Int) :: y.drop (i + 1) := by
      unfold rd
      rw [Int.toNat_natCast, List.getD_eq_getElem?_getD, List.getElem?_eq_getElem (by omega)]
      exact List.drop_eq_getElem_cons (by omega)
    rw [ex, ey]
    by_cases he : rd x (i : Int) = rd y (i : Int)
    · have e : decide (rd x (i : Int) :: x.drop (i + 1) = rd y (i : Int) :: y.drop (i + 1)) = decide (x.drop (i + 1) = y.drop (i + 1)) := by rw [he]; simp
      rw [e]
      refine Ev.step (fun k => ?_) (ih (i + 1) (by omega))
      rw [slices_Equal_int_int.l0, w1]
      repeat (first | rw [if_pos (by omega)] | rw [if_pos he])
    · have e : decide (rd x (i : Int) :: x.drop (i + 1) = rd y (i : Int) :: y.drop (i + 1)) = false := by simp [he]
      rw [e]
      refine Ev.step (G := fun _ => some false) (fun k => ?_) (Ev.pure _)
      rw [slices_Equal_int_int.l0]
      repeat (first | rw [if_pos (by omega)] | rw [if_neg he])
theorem slEq_at (x y : List Int) (hl : x.length ≤ 4000000000) : Ev (fun k => slices_Equal_int_int.f k x y) (decide (x = y)) := by
  by_cases h : x.length = y.length
  · refine Ev.same (G := fun k => slices_Equal_int_int.l0 k x y (x.length : Int) 0) (fun k => by unfold slices_Equal_int_int.f; rw [if_pos (by omega)]) ?_
    have := slEq_loop x y h hl x.length 0 (by omega)
    rw [List.drop_zero, List.drop_zero] at this
    exact this
  · have e : decide (x = y) = false := decide_eq_false (fun e => h (by rw [e]))
    rw [e]
    exact Ev.same (G := fun _ => some false) (fun k => by unfold slices_Equal_int_int.f; rw [if_neg (by omega)]) (Ev.pure _)
theorem cutI_length (l : List Int) (a b : Int) : (cutI l a b).length ≤ l.length := by
  unfold cutI; rw [List.length_drop, List.length_take]; omega
theorem fits1_at (la lb : List Int) (h1 : la.length ≤ 4194304) (h2 : lb.length ≤ 4194304) (f : Bool) (a b : Nat) (d : Nat) (ha : a + d ≤ la.length) (hb : b + d ≤ lb.length) (c : Int) (hc : c = (d : Int)) : Ev (fun k => fits1.f k la lb f (a : Int) (b : Int) c) (f && eqRun la lb (a : Int) (b : Int) d) := by
  subst hc
  cases f with
  | false => exact Ev.same (G := fun _ => some false) (fun k => by unfold fits1.f; rw [if_neg (by simp)]) (Ev.pure _)
  | true =>
    have e1 : wrap64 ((a : Int) + (d : Int)) = (a : Int) + (d : Int) := w64' (by omega) (by omega)
    have e2 : wrap64 ((b : Int) + (d : Int)) = (b : Int) + (d : Int) := w64' (by omega) (by omega)
    rw [Bool.true_and, ← cut_eq la lb d a b ha hb]
    refine Ev.same (fun k => ?_) (slEq_at (cutI la (a : Int) ((a : Int) + (d : Int))) (cutI lb (b : Int) ((b : Int) + (d : Int))) (by have := cutI_length la (a : Int) ((a : Int) + (d : Int)); omega))
    unfold fits1.f
    rw [if_pos rfl, e1, e2, if_pos (by omega)]
def fitB (la lb : List Int) (n : Int) : List S43 → Int → Int → Bool
  | [], a, b => eqRun la lb a b (n - a).toNat
  | c :: t, a, b => eqRun la lb a b (c.f0 - a).toNat && fitB la lb n t (c.f0 + c.f1) (c.f2 + c.f3)
theorem stay_at (la lb : List Int) (h1 : la.length ≤ 4194304) (h2 : lb.length ≤ 4194304) : ∀ (s : List S43) (a b : Int) (f : Bool), validP (la.length : Int) (lb.length : Int) s a b → 0 ≤ a → a ≤ la.length → 0 ≤ b → b ≤ lb.length →
    Ev (fun k => stayF k la lb (la.length : Int) s a b f) (f && fitB la lb (la.length : Int) s a b)
  | [], a, b, f, hv, a1, a2, b1, b2 => by
    have hv' : (la.length : Int) - a = (lb.length : Int) - b := hv
    have e1 : wrap64 ((la.length : Int) - a) = (la.length : Int) - a := w64' (by omega) (by omega)
    have := fits1_at la lb h1 h2 f a.toNat b.toNat ((la.length : Int) - a).toNat (by omega) (by omega) ((la.length : Int) - a) (by omega)
    rw [show (a.toNat : Int) = a by omega, show (b.toNat : Int) = b by omega] at this
    exact Ev.same (fun k => by simp only [stayF]; rw [e1]) this
  | c :: t, a, b, f, hv, a1, a2, b1, b2 => by
    obtain ⟨⟨q1, q2, q3, q4, q5, q6, q7, q8, q9, q10⟩, hv2⟩ := hv
    have e1 : wrap64 (c.f0 - a) = c.f0 - a := w64' (by omega) (by omega)
    have e2 : wrap64 (c.f0 + c.f1) = c.f0 + c.f1 := w64' (by omega) (by omega)
    have e3 : wrap64 (c.f2 + c.f3) = c.f2 + c.f3 := w64' (by omega) (by omega)
    have hf := fits1_at la lb h1 h2 f a.toNat b.toNat (c.f0 - a).toNat (by omega) (by omega) (c.f0 - a) (by omega)
    rw [show (a.toNat : Int) = a by omega, show (b.toNat : Int) = b by omega] at hf
    have ht := stay_at la lb h1 h2 t (c.f0 + c.f1) (c.f2 + c.f3) (f && eqRun la lb a b (c.f0 - a).toNat) hv2 (by omega) (by omega) (by omega) (by omega)
    rw [Bool.and_assoc] at ht
    exact Ev.same (fun k => by simp only [stayF]; rw [e1, e2, e3]) (Ev.bind hf ht)
noncomputable def fitsS (s : List S43) (la lb : List Int) : Option Int := if (validS s (la.length : Int) (lb.length : Int)).isNone = true then (if fitB la lb (la.length : Int) s 0 0 = true then none else some 61) else validS s (la.length : Int) (lb.length : Int)
theorem fits_at (s : List S43) (la lb : List Int) (hs : s.length ≤ 4000000000) : Ev (fun k => edits_Fits.f k s la lb) (fitsS s la lb) := by
  refine Ev.same (fun k => by unfold edits_Fits.f; rw [if_pos (by omega)]) (Ev.bind (valid_at s hs (la.length : Int) (lb.length : Int) (by omega) (by omega)) ?_)
  unfold fitsS
  cases hv : validS s (la.length : Int) (lb.length : Int) with
  | some e => exact Ev.same (G := fun _ => some (some e)) (fun k => by rw [if_neg (by simp)]) (by rw [if_neg (by simp)]; exact Ev.pure _)
  | none =>
    obtain ⟨hn, hm, hp⟩ := validS_none hv
    have := stay_at la lb (by omega) (by omega) s 0 0 true hp (by omega) (by omega) (by omega) (by omega)
    rw [Bool.true_and] at this
    rw [if_pos (show (none : Option Int).isNone = true from rfl)]
    exact Ev.same (fun k => by rw [if_pos (show (none : Option Int).isNone = true from rfl)]) (Ev.bind this (Ev.pure _))
def allP (la lb : List Int) : List S55 → Bool
  | [] => true
  | p :: t => (rd la p.f0 == rd lb p.f1) && allP la lb t
theorem allP_run (la lb : List Int) (rest : List S55) (d : Nat) : ∀ a b, allP la lb (runP a b d ++ rest) = (eqRun la lb a b d && allP la lb rest) := by
  induction d with
  | zero => intro a b; simp [runP, eqRun]
  | succ d ih =>
    intro a b
    show ((rd la a == rd lb b) && allP la lb (runP (a + 1) (b + 1) d ++ rest)) = _
    rw [ih, eqRun, Bool.and_assoc]
theorem allP_pairs (la lb : List Int) (n : Int) : ∀ (s : List S43) (a b : Int), allP la lb (pairsL n s a b) = fitB la lb n s a b
  | [], a, b => by
    have := allP_run la lb [] (n - a).toNat a b
    rw [List.append_nil] at this
    simp only [pairsL, fitB]
    rw [this]; simp [allP]
  | c :: t, a, b => by
    simp only [pairsL, fitB]
    rw [allP_run, allP_pairs la lb n t]
theorem rfits_loop (la lb : List Int) (l : List S55) (hl : l.length ≤ 8000000) (d : Nat) : ∀ (i : Nat) (a b : Int), i + d = l.length → inO (la.length : Int) (lb.length : Int) (l.drop i) a b → 0 ≤ a → 0 ≤ b →
    Ev (fun k => selvageref06_Fits.l0 k la lb l (i : Int)) (if allP la lb (l.drop i) = true then 0 else 61) := by
  induction d with
  | zero =>
    intro i a b h hv _ _
    rw [List.drop_of_length_le (by omega)]
    refine Ev.step (G := fun _ => some 0) (fun k => ?_) (Ev.pure _)
    rw [selvageref06_Fits.l0, if_neg (by omega)]
  | succ d ih =>
    intro i a b h hv ha hb
    have w1 : wrap64 ((i : Int) + 1) = ((i + 1 : Nat) : Int) := w_add i 1 (by omega)
    rw [drop55 l i (by omega)] at hv ⊢
    obtain ⟨h1, h2, h3, h4, hv2⟩ := hv
    generalize hp : rd_T55 l (i : Int) = p at h1 h2 h3 h4 hv2 ⊢
    by_cases he : rd la p.f0 = rd lb p.f1
    · have e : allP la lb (p :: l.drop (i + 1)) = allP la lb (l.drop (i + 1)) := by simp only [allP, he]; simp
      rw [e]
      refine Ev.step (fun k => ?_) (ih (i + 1) (p.f0 + 1) (p.f1 + 1) (by omega) hv2 (by omega) (by omega))
      rw [selvageref06_Fits.l0, hp, w1, if_pos (by omega), if_pos (by omega), if_pos (by omega), if_pos h3, if_pos (by omega), if_pos h4, if_pos he]
    · have e : allP la lb (p :: l.drop (i + 1)) = false := by simp only [allP]; simp [he]
      rw [e]
      refine Ev.step (G := fun _ => some 61) (fun k => ?_) (Ev.pure _)
      rw [selvageref06_Fits.l0, hp, if_pos (by omega), if_pos (by omega), if_pos (by omega), if_pos h3, if_pos (by omega), if_pos h4, if_neg he]
theorem rfits_at (s : List S43) (la lb : List Int) (hs : s.length ≤ 4000000000) : Ev (fun k => selvageref06_Fits.f k s la lb) (num (fitsS s la lb)) := by
  refine Ev.bind (rvalid_at s hs (la.length : Int) (lb.length : Int) (by omega) (by omega)) ?_
  unfold fitsS
  cases hv : validS s (la.length : Int) (lb.length : Int) with
  | some e =>
    have he := validS_some hv
    exact Ev.same (G := fun _ => some e) (fun k => by rw [if_neg (show ¬ num (some e) = 0 from he)]; rfl) (by rw [if_neg (by simp)]; exact Ev.pure _)
  | none =>
    obtain ⟨hn, hm, hp⟩ := validS_none hv
    have h1 := pairs_loop s (la.length : Int) (lb.length : Int) hn hm hs s.length 0 [] 0 0 (by omega) hp (by omega) (by omega) (by omega) (by omega) (by simp)
    rw [List.nil_append, List.drop_zero] at h1
    have hlen := pairsL_length (la.length : Int) (lb.length : Int) s 0 0 hp (by omega)
    have h1' : Ev (fun k => selvageref06_pairs.f k s (la.length : Int)) (pairsL (la.length : Int) s 0 0) := h1
    have h2 := rfits_loop la lb (pairsL (la.length : Int) s 0 0) (by omega) (pairsL (la.length : Int) s 0 0).length 0 0 0 (by omega) (inO_pairs _ _ s 0 0 hp (by omega) (by omega)) (by omega) (by omega)
    rw [List.drop_zero, allP_pairs] at h2
    refine Ev.same (G := fun k => (selvageref06_pairs.f k s (la.length : Int)).bind fun t => selvageref06_Fits.l0 k la lb t 0) (fun k => by rw [if_pos (show num none = 0 from rfl)]) (Ev.bind h1' ?_)
    rw [if_pos (show (none : Option Int).isNone = true from rfl)]
    have e : num (if fitB la lb (la.length : Int) s 0 0 = true then none else some 61) = if fitB la lb (la.length : Int) s 0 0 = true then 0 else 61 := by split <;> rfl
    rw [e]
    exact h2
end Go.Proofs.YtmfanpibpmajnaaDoor.Pure
