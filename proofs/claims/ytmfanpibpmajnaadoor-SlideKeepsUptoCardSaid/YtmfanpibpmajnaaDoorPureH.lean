/-
  SlideKeeps, in plain Lean: a slid script is valid, fits, costs as much, and is normal.
-/
import Derived.Test.YtmfanpibpmajnaaDoorPureF
namespace Go.Proofs.YtmfanpibpmajnaaDoor.Pure
open Go.RowKit Go.Proofs.YtmfanpibpmajnaaDoor.Pp Go.Proofs.YtmfanpibpmajnaaDoor.Ext Go.Proofs.YtmfanpibpmajnaaDoorW.PrintWords Go.Proofs.YtmfanpibpmajnaaDoorW.PrintLast Go.Proofs.YtmfanpibpmajnaaDoorW.PrintMore
theorem eqRun_add (la lb : List Int) (d e : Nat) : ∀ a b : Int, eqRun la lb a b (d + e) = (eqRun la lb a b d && eqRun la lb (a + (d : Int)) (b + (d : Int)) e) := by
  induction d with
  | zero => intro a b; rw [Nat.zero_add, show a + ((0 : Nat) : Int) = a by omega, show b + ((0 : Nat) : Int) = b by omega]; simp [eqRun]
  | succ d ih =>
    intro a b
    rw [show d + 1 + e = (d + e) + 1 by omega]
    simp only [eqRun]
    rw [ih, Bool.and_assoc, show a + 1 + (d : Int) = a + ((d + 1 : Nat) : Int) by omega, show b + 1 + (d : Int) = b + ((d + 1 : Nat) : Int) by omega]
theorem eqRun_sum (la lb : List Int) (a b : Int) (d e : Nat) (h1 : eqRun la lb a b d = true) (h2 : eqRun la lb (a + (d : Int)) (b + (d : Int)) e = true) : eqRun la lb a b (d + e) = true := by rw [eqRun_add, h1, h2]; rfl
theorem valid_start (n m : Int) : ∀ (r : List S43) (x y a b : Int), validP n m r x y → a ≤ x → x - a = y - b → validP n m r a b
  | [], x, y, a, b, h, h1, h2 => by have h' : n - x = m - y := h; show n - a = m - b; omega
  | c :: t, x, y, a, b, h, h1, h2 => by
    obtain ⟨⟨q1, q2, q3, q4, q5, q6, q7, q8, q9, q10⟩, hv⟩ := h
    exact ⟨⟨q1, q2, q3, by omega, q5, by omega, q7, by omega, q9, q10⟩, hv⟩
theorem fit_start (la lb : List Int) (n m : Int) (r : List S43) (x y a b : Int) (hv : validP n m r x y) (hx : x ≤ n) (h : fitB la lb n r x y = true) (h1 : a ≤ x) (h2 : x - a = y - b) (he : eqRun la lb a b (x - a).toNat = true) : fitB la lb n r a b = true := by
  cases r with
  | nil =>
    simp only [fitB] at h ⊢
    rw [show (n - a).toNat = (x - a).toNat + (n - x).toNat by omega]
    refine eqRun_sum la lb a b _ _ he ?_
    rw [show a + ((x - a).toNat : Int) = x by omega, show b + ((x - a).toNat : Int) = y by omega]
    exact h
  | cons c t =>
    obtain ⟨⟨q1, q2, q3, q4, q5, q6, q7, q8, q9, q10⟩, hv2⟩ := hv
    simp only [fitB, Bool.and_eq_true] at h ⊢
    refine ⟨?_, h.2⟩
    rw [show (c.f0 - a).toNat = (x - a).toNat + (c.f0 - x).toNat by omega]
    refine eqRun_sum la lb a b _ _ he ?_
    rw [show a + ((x - a).toNat : Int) = x by omega, show b + ((x - a).toNat : Int) = y by omega]
    exact h.1
theorem fit_snoc (la lb : List Int) (n : Int) (c : S43) : ∀ (p : List S43) (a b : Int), fitB la lb n (p ++ [c]) a b = (fitB la lb c.f0 p a b && eqRun la lb (c.f0 + c.f1) (c.f2 + c.f3) (n - (c.f0 + c.f1)).toNat)
  | [], a, b => rfl
  | x :: t, a, b => by
    show (eqRun la lb a b (x.f0 - a).toNat && fitB la lb n (t ++ [c]) _ _) = _
    rw [fit_snoc la lb n c t, ← Bool.and_assoc]; rfl
theorem fit_more (la lb : List Int) : ∀ (p : List S43) (x y a b : Int), validP x y p a b → a ≤ x → fitB la lb x p a b = true → rd la x = rd lb y → fitB la lb (x + 1) p a b = true
  | [], x, y, a, b, hv, ha, h, he => by
    have hv' : x - a = y - b := hv
    simp only [fitB] at h ⊢
    rw [show (x + 1 - a).toNat = (x - a).toNat + 1 by omega]
    refine eqRun_sum la lb a b _ _ h ?_
    rw [show a + ((x - a).toNat : Int) = x by omega, show b + ((x - a).toNat : Int) = y by omega]
    simp only [eqRun]
    rw [he]; simp
  | c :: t, x, y, a, b, hv, ha, h, he => by
    obtain ⟨⟨q1, q2, q3, q4, q5, q6, q7, q8, q9, q10⟩, hv2⟩ := hv
    simp only [fitB, Bool.and_eq_true] at h ⊢
    exact ⟨h.1, fit_more la lb t x y _ _ hv2 (by omega) h.2 he⟩
def sm1 : List S43 → Int
  | [] => 0
  | c :: t => c.f1 + sm1 t
def sm3 : List S43 → Int
  | [] => 0
  | c :: t => c.f3 + sm3 t
theorem sm1_snoc (c : S43) : ∀ p : List S43, sm1 (p ++ [c]) = sm1 p + c.f1
  | [] => by show c.f1 + 0 = 0 + c.f1; omega
  | x :: t => by show x.f1 + sm1 (t ++ [c]) = x.f1 + sm1 t + c.f1; rw [sm1_snoc c t]; omega
theorem sm3_snoc (c : S43) : ∀ p : List S43, sm3 (p ++ [c]) = sm3 p + c.f3
  | [] => by show c.f3 + 0 = 0 + c.f3; omega
  | x :: t => by show x.f3 + sm3 (t ++ [c]) = x.f3 + sm3 t + c.f3; rw [sm3_snoc c t]; omega
theorem nrm_facts (la lb : List Int) (n m e : Int) : ∀ (s : List S43) (pa pb qa qb a b : Int), validP n m s qa qb → pa ≤ qa → pb ≤ qb → (pa < qa ∨ pb < qb) →
    sm1 (nrm s pa pb qa qb) = (qa - pa) + sm1 s ∧ sm3 (nrm s pa pb qa qb) = (qb - pb) + sm3 s ∧ fitB la lb e (nrm s pa pb qa qb) a b = (eqRun la lb a b (pa - a).toNat && fitB la lb e s qa qb)
  | [], pa, pb, qa, qb, a, b, hv, h1, h2, h3 => by
    simp only [nrm]
    rw [gap_some h3]
    refine ⟨rfl, rfl, ?_⟩
    show (eqRun la lb a b (pa - a).toNat && fitB la lb e [] (pa + (qa - pa)) (pb + (qb - pb))) = _
    rw [show pa + (qa - pa) = qa by omega, show pb + (qb - pb) = qb by omega]
  | c :: t, pa, pb, qa, qb, a, b, hv, h1, h2, h3 => by
    obtain ⟨⟨q1, q2, q3, q4, q5, q6, q7, q8, q9, q10⟩, hv2⟩ := hv
    simp only [nrm]
    by_cases q : qa < c.f0
    · rw [if_pos q, gap_some h3]
      obtain ⟨i1, i2, i3⟩ := nrm_facts la lb n m e t c.f0 c.f2 (c.f0 + c.f1) (c.f2 + c.f3) qa qb hv2 (by omega) (by omega) (by omega)
      refine ⟨?_, ?_, ?_⟩
      · show (qa - pa) + sm1 (nrm t _ _ _ _) = (qa - pa) + (c.f1 + sm1 t); rw [i1]; omega
      · show (qb - pb) + sm3 (nrm t _ _ _ _) = (qb - pb) + (c.f3 + sm3 t); rw [i2]; omega
      · show (eqRun la lb a b (pa - a).toNat && fitB la lb e (nrm t c.f0 c.f2 (c.f0 + c.f1) (c.f2 + c.f3)) (pa + (qa - pa)) (pb + (qb - pb))) = _
        rw [show pa + (qa - pa) = qa by omega, show pb + (qb - pb) = qb by omega, i3]; rfl
    · rw [if_neg q]
      obtain ⟨i1, i2, i3⟩ := nrm_facts la lb n m e t pa pb (c.f0 + c.f1) (c.f2 + c.f3) a b hv2 (by omega) (by omega) (by omega)
      refine ⟨?_, ?_, ?_⟩
      · rw [i1]; show _ = (qa - pa) + (c.f1 + sm1 t); omega
      · rw [i2]; show _ = (qb - pb) + (c.f3 + sm3 t); omega
      · rw [i3]
        show _ = (eqRun la lb a b (pa - a).toNat && (eqRun la lb qa qb (c.f0 - qa).toNat && fitB la lb e t _ _))
        rw [show (c.f0 - qa).toNat = 0 by omega]; simp [eqRun]
theorem nrm_facts0 (la lb : List Int) (n m : Int) (s : List S43) (hv : validP n m s 0 0) : sm1 (nrm s 0 0 0 0) = sm1 s ∧ sm3 (nrm s 0 0 0 0) = sm3 s ∧ fitB la lb n (nrm s 0 0 0 0) 0 0 = fitB la lb n s 0 0 := by
  cases s with
  | nil => show sm1 (gap 0 0 0 0) = _ ∧ sm3 (gap 0 0 0 0) = _ ∧ fitB la lb n (gap 0 0 0 0) 0 0 = _; rw [gap_none]; exact ⟨rfl, rfl, rfl⟩
  | cons c t =>
    obtain ⟨h, hv2⟩ := hv
    rw [nrm_start c t n m h]
    obtain ⟨q1, q2, q3, q4, q5, q6, q7, q8, q9, q10⟩ := h
    obtain ⟨i1, i2, i3⟩ := nrm_facts la lb n m n t c.f0 c.f2 (c.f0 + c.f1) (c.f2 + c.f3) 0 0 hv2 (by omega) (by omega) (by omega)
    refine ⟨?_, ?_, ?_⟩
    · rw [i1]; show _ = c.f1 + sm1 t; omega
    · rw [i2]; show _ = c.f3 + sm3 t; omega
    · rw [i3]; rfl
theorem slid_fit (la lb : List Int) (x y : Int) (p : List S43) (d : Nat) : ∀ c, GoodC la lb x y c → validP c.f0 c.f2 p 0 0 → fitB la lb c.f0 p 0 0 = true → eqRun la lb (c.f0 + c.f1) (c.f2 + c.f3) (x - (c.f0 + c.f1)).toNat = true →
    (slideN la lb x y d c).f1 = c.f1 ∧ (slideN la lb x y d c).f3 = c.f3 ∧ GoodC la lb x y (slideN la lb x y d c) ∧ validP (slideN la lb x y d c).f0 (slideN la lb x y d c).f2 p 0 0 ∧ fitB la lb (slideN la lb x y d c).f0 p 0 0 = true ∧
      eqRun la lb ((slideN la lb x y d c).f0 + (slideN la lb x y d c).f1) ((slideN la lb x y d c).f2 + (slideN la lb x y d c).f3) (x - ((slideN la lb x y d c).f0 + (slideN la lb x y d c).f1)).toNat = true := by
  induction d with
  | zero => intro c g v f e; exact ⟨rfl, rfl, g, v, f, e⟩
  | succ d ih =>
    intro c g v f e
    simp only [slideN]
    by_cases h : slB la lb x y c = true
    · rw [if_pos h]
      have hlt := slB_lt g h
      obtain ⟨r, hr⟩ : ∃ r, (x - (c.f0 + c.f1)).toNat = r + 1 := ⟨(x - (c.f0 + c.f1)).toNat - 1, by omega⟩
      rw [hr] at e
      simp only [eqRun, Bool.and_eq_true, beq_iff_eq] at e
      have hab : rd la c.f0 = rd lb c.f2 := by
        unfold slB at h
        by_cases h3 : c.f3 = 0
        · rw [if_pos h3, if_pos hlt, beq_iff_eq] at h
          rw [h, e.1, h3, Int.add_zero]
        · rw [if_neg h3] at h
          by_cases h1 : c.f1 = 0
          · rw [if_pos h1] at h
            split at h
            · rw [beq_iff_eq] at h
              rw [h, ← e.1, h1, Int.add_zero]
            · cases h
          · rw [if_neg h1] at h; cases h
      have f' := fit_more la lb p c.f0 c.f2 0 0 v g.a0 f hab
      have v' := valid_more 1 (by omega) p c.f0 c.f2 0 0 v
      exact ih (up c) (g.up hlt) v' f' (by
        show eqRun la lb (c.f0 + 1 + c.f1) (c.f2 + 1 + c.f3) (x - (c.f0 + 1 + c.f1)).toNat = true
        rw [show c.f0 + 1 + c.f1 = c.f0 + c.f1 + 1 by omega, show c.f2 + 1 + c.f3 = c.f2 + c.f3 + 1 by omega, show (x - (c.f0 + c.f1 + 1)).toNat = r by omega]
        exact e.2)
    · rw [if_neg h]
      exact ⟨rfl, rfl, g, v, f, e⟩
def nmP : List S43 → Prop
  | [] => True
  | c :: t => (match t with | [] => True | g :: _ => c.f0 + c.f1 ≠ g.f0) ∧ nmP t
structure Behind (la lb : List Int) (R : List S43) (x y : Int) : Prop where
  valid : validP (la.length : Int) (lb.length : Int) R x y
  fit : fitB la lb (la.length : Int) R x y = true
  nm : nmP R
  head : ∀ h T, R = h :: T → h.f0 = x ∧ h.f2 = y
theorem lastOf_rev (h : S43) (T : List S43) (hl : T.length ≤ 3000000000) : lastOf (h :: T).reverse = h := by
  rw [List.reverse_cons]
  unfold lastOf
  have e : (T.reverse ++ [h]).length = T.length + 1 := by rw [List.length_append, List.length_reverse, List.length_singleton]
  rw [e, show wrap64 (((T.length + 1 : Nat) : Int) - 1) = (T.reverse.length : Int) by rw [w64' (by omega) (by omega), List.length_reverse]; omega]
  exact rd_last _ _
theorem add_merge (h : S43) (T : List S43) (x : Int) (c : S43) (hl : T.length ≤ 3000000000) (hx : c.f0 + c.f1 = x) : addS (h :: T).reverse x c = ((⟨c.f0, wrap64 (c.f1 + h.f1), c.f2, wrap64 (c.f3 + h.f3)⟩ : S43) :: T).reverse := by
  unfold addS
  rw [lastOf_rev h T hl, if_pos ⟨by simp, hx⟩, List.reverse_cons, List.reverse_cons]
  have e : (T.reverse ++ [h]).length - 1 = T.reverse.length := by rw [List.length_append, List.length_singleton]; omega
  rw [e, set_last]
theorem add_new (R : List S43) (x : Int) (c : S43) (hx : R = [] ∨ ¬ c.f0 + c.f1 = x) : addS R.reverse x c = (c :: R).reverse := by
  unfold addS
  rw [if_neg, List.reverse_cons]
  rintro ⟨h1, h2⟩
  rcases hx with rfl | hx
  · simp at h1
  · exact hx h2
theorem revN_app (X : List S43) (L : List S43) : ∀ j, j ≤ L.length → revN (L ++ X) j = revN L j
  | 0, _ => rfl
  | j + 1, h => by
    simp only [revN]
    rw [revN_app X L j (by omega)]
    congr 1
    unfold rd_T43
    rw [Int.toNat_natCast, List.getD_eq_getElem?_getD, List.getD_eq_getElem?_getD, List.getElem?_append_left (by omega)]
theorem revN_rev : ∀ R : List S43, revN R.reverse R.length = R
  | [] => rfl
  | h :: T => by
    have e := rd_last T.reverse h
    rw [List.length_reverse] at e
    have f := revN_app [h] T.reverse T.length (by rw [List.length_reverse]; omega)
    rw [List.reverse_cons, List.length_cons]
    simp only [revN]
    rw [e, f, revN_rev T]
theorem behind_add (la lb : List Int) (R : List S43) (x y : Int) (c : S43) (hl : R.length ≤ 2000000000) (g : GoodC la lb x y c) (hB : Behind la lb R x y) (he : eqRun la lb (c.f0 + c.f1) (c.f2 + c.f3) (x - (c.f0 + c.f1)).toNat = true) :
    ∃ R', addS R.reverse x c = R'.reverse ∧ R'.length ≤ R.length + 1 ∧ Behind la lb R' c.f0 c.f2 ∧ sm1 R' = sm1 R + c.f1 ∧ sm3 R' = sm3 R + c.f3 := by
  obtain ⟨b1, b2, b3, b4⟩ := hB
  obtain ⟨g1, g2, g3, g4, g5, g6, g7, g8, g9, g10, g11, g12⟩ := g
  by_cases hm : R = [] ∨ ¬ c.f0 + c.f1 = x
  · have hv := valid_start _ _ R x y (c.f0 + c.f1) (c.f2 + c.f3) b1 (by omega) (by omega)
    have hf := fit_start la lb _ _ R x y (c.f0 + c.f1) (c.f2 + c.f3) b1 g10 b2 (by omega) (by omega) he
    refine ⟨c :: R, add_new R x c hm, by rw [List.length_cons]; omega, ⟨⟨⟨g4, g6, g7, by omega, by omega, by omega, by omega, by omega, by omega, by omega⟩, hv⟩, ?_, ⟨?_, b3⟩, fun h T e => by cases e; exact ⟨rfl, rfl⟩⟩, by show c.f1 + sm1 R = _; omega, by show c.f3 + sm3 R = _; omega⟩
    · simp only [fitB]
      rw [show (c.f0 - c.f0).toNat = 0 by omega, hf]; rfl
    · cases R with
      | nil => trivial
      | cons h T =>
        rcases hm with e | e
        · cases e
        · show c.f0 + c.f1 ≠ h.f0
          rw [(b4 h T rfl).1]; exact e
  · cases R with
    | nil => exact absurd (Or.inl rfl) hm
    | cons h T =>
      have hx : c.f0 + c.f1 = x := Decidable.of_not_not (fun e => hm (Or.inr e))
      obtain ⟨k1, k2⟩ := b4 h T rfl
      obtain ⟨⟨q1, q2, q3, q4, q5, q6, q7, q8, q9, q10⟩, hv⟩ := b1
      rw [List.length_cons] at hl
      have w1 : wrap64 (c.f1 + h.f1) = c.f1 + h.f1 := w64' (by omega) (by omega)
      have w3 : wrap64 (c.f3 + h.f3) = c.f3 + h.f3 := w64' (by omega) (by omega)
      refine ⟨(⟨c.f0, c.f1 + h.f1, c.f2, c.f3 + h.f3⟩ : S43) :: T, by rw [add_merge h T x c (by omega) hx, w1, w3], by simp only [List.length_cons]; omega, ⟨⟨⟨?_, ?_, ?_, ?_, ?_, ?_, ?_, ?_, ?_, ?_⟩, ?_⟩, ?_, ⟨?_, b3.2⟩, fun h' T' e => by cases e; exact ⟨rfl, rfl⟩⟩, ?_, ?_⟩
      · show 0 ≤ c.f1 + h.f1; omega
      · show 0 ≤ c.f3 + h.f3; omega
      · show c.f1 + h.f1 ≠ 0 ∨ c.f3 + h.f3 ≠ 0; omega
      · show c.f0 ≤ c.f0; omega
      · show c.f0 ≤ _; omega
      · show c.f2 ≤ c.f2; omega
      · show c.f2 ≤ _; omega
      · show c.f0 - c.f0 = c.f2 - c.f2; omega
      · show c.f1 + h.f1 ≤ _ - c.f0; omega
      · show c.f3 + h.f3 ≤ _ - c.f2; omega
      · show validP _ _ T (c.f0 + (c.f1 + h.f1)) (c.f2 + (c.f3 + h.f3))
        rw [show c.f0 + (c.f1 + h.f1) = h.f0 + h.f1 by omega, show c.f2 + (c.f3 + h.f3) = h.f2 + h.f3 by omega]
        exact hv
      · simp only [fitB, Bool.and_eq_true] at b2 ⊢
        refine ⟨by rw [show (c.f0 - c.f0).toNat = 0 by omega]; rfl, ?_⟩
        rw [show c.f0 + (c.f1 + h.f1) = h.f0 + h.f1 by omega, show c.f2 + (c.f3 + h.f3) = h.f2 + h.f3 by omega]
        exact b2.2
      · have b31 := b3.1
        cases T with
        | nil => trivial
        | cons g' T' => show c.f0 + (c.f1 + h.f1) ≠ g'.f0; have b31' : h.f0 + h.f1 ≠ g'.f0 := b31; omega
      · show c.f1 + h.f1 + sm1 T = h.f1 + sm1 T + c.f1; omega
      · show c.f3 + h.f3 + sm3 T = h.f3 + sm3 T + c.f3; omega
structure Slid (la lb : List Int) (R : List S43) (S1 S3 : Int) : Prop where
  valid : validP (la.length : Int) (lb.length : Int) R 0 0
  fit : fitB la lb (la.length : Int) R 0 0 = true
  nm : nmP R
  s1 : sm1 R = S1
  s3 : sm3 R = S3
  len : R.length ≤ 2000000000
theorem slid_loop (la lb : List Int) (h1 : la.length ≤ 4194304) (h2 : lb.length ≤ 4194304) (l : List S43) (hl : l.length ≤ 2000000000) (j : Nat) : ∀ (R : List S43) (x y : Int), j ≤ l.length → R.length + j ≤ 2000000000 → validP x y (l.take j) 0 0 → fitB la lb x (l.take j) 0 0 = true → 0 ≤ x → x ≤ la.length → y ≤ lb.length →
    (R = [] → x = la.length ∧ y = lb.length) → Behind la lb R x y →
    ∃ r : List S43, Slid la lb r (sm1 R + sm1 (l.take j)) (sm3 R + sm3 (l.take j)) ∧ Ev (fun k => slide_Slide.l0 k la lb l R.reverse ((j : Int) - 1)) (r, none) := by
  induction j with
  | zero =>
    intro R x y hj ho hv hf hx0 hx hy e0 hB
    have hlr : R.reverse.length = R.length := List.length_reverse
    have w : wrap64 ((R.reverse.length : Int) - 1) = (R.reverse.length : Int) - 1 := w_sub R.reverse.length (by omega)
    obtain ⟨b1, b2, b3, b4⟩ := hB
    have hv' : x - 0 = y - 0 := hv
    have hf' : eqRun la lb 0 0 (x - 0).toNat = true := hf
    refine ⟨R, ⟨valid_start _ _ R x y 0 0 b1 hx0 hv', fit_start la lb _ _ R x y 0 0 b1 hx b2 hx0 hv' hf', b3, ?_, ?_, by omega⟩, ?_⟩
    · show _ = sm1 R + 0; omega
    · show _ = sm3 R + 0; omega
    · have := p_rev R.reverse (by omega) R.reverse.length [] (Nat.le_refl _) (by simp; omega)
      rw [List.nil_append, hlr, revN_rev] at this
      refine Ev.step (fun k => ?_) this
      rw [slide_Slide.l0, if_neg (by omega), w, hlr]
  | succ j ih =>
    intro R x y hj ho hv hf hx0 hx hy e0 hB
    have e : ((j + 1 : Nat) : Int) - 1 = (j : Int) := by omega
    have w : wrap64 ((j : Int) - 1) = (j : Int) - 1 := w_sub j (by omega)
    have hlr : R.reverse.length = R.length := List.length_reverse
    rw [take_rd l j (by omega)] at hv hf ⊢
    obtain ⟨v1, v2, v3, v4, v5, v6, v7, v8, v9⟩ := valid_snoc x y _ (l.take j) 0 0 hv
    rw [fit_snoc, Bool.and_eq_true] at hf
    generalize hc : rd_T43 l (j : Int) = c at v1 v2 v3 v4 v5 v6 v7 v8 v9 hf ⊢
    have g : GoodC la lb x y c := ⟨h1, h2, v2, v4, v3, v5, v6, v7, v8, hx, hy, v9⟩
    obtain ⟨t1, t3, g', v', f', e'⟩ := slid_fit la lb x y (l.take j) (x - (c.f0 + c.f1)).toNat c g v1 hf.1 hf.2
    generalize hcs : slideN la lb x y (x - (c.f0 + c.f1)).toNat c = c' at t1 t3 g' v' f' e'
    obtain ⟨R', r1, r2, r3, r4, r5⟩ := behind_add la lb R x y c' (by omega) g' hB e'
    have hne : R' ≠ [] := by
      intro z
      rw [z] at r1
      have := (addS_last R.reverse x c' (by omega)).1
      rw [r1] at this
      simp at this
    obtain ⟨r, hr, p1⟩ := ih R' c'.f0 c'.f2 (by omega) (by omega) v' f' g'.a0 (by have := g'.ax; have := g'.n0; omega) (by have := g'.byy; have := g'.m0; omega) (fun z => absurd z hne) r3
    refine ⟨r, ?_, ?_⟩
    · rw [sm1_snoc, sm3_snoc, show sm1 R + (sm1 (l.take j) + c.f1) = sm1 R' + sm1 (l.take j) by omega, show sm3 R + (sm3 (l.take j) + c.f3) = sm3 R' + sm3 (l.take j) by omega]
      exact hr
    · rw [e]
      have hin := p_inner la lb l R.reverse (j : Int) x y (by omega) _ w (x - (c.f0 + c.f1)).toNat c g (by omega) (by rw [hcs, r1]; exact p1)
      have hj1 : Ev (fun k => slide_Slide.j1 k la lb l R.reverse (j : Int) x y c.f0 c.f1 c.f2 c.f3) (r, none) := Ev.step (fun k => by rw [slide_Slide.j1]) hin
      refine Ev.step (fun k => ?_) hj1
      rw [slide_Slide.l0, hc, if_pos (by omega), if_pos (by omega), if_pos (by omega)]
      cases R with
      | cons h T =>
        rw [List.length_cons] at ho hlr
        obtain ⟨k1, k2⟩ := hB.head h T rfl
        have hw := w_len (h :: T).reverse (by omega) (by omega)
        rw [if_pos (show ((h :: T).reverse.length : Int) > 0 by omega)]
        have hlo : rd_T43 (h :: T).reverse (wrap64 (((h :: T).reverse.length : Int) - 1)) = h := lastOf_rev h T (by omega)
        rw [hlo, k1, k2, hw, if_pos (by omega), if_pos (by omega)]
      | nil =>
        obtain ⟨x1, y1⟩ := e0 rfl
        rw [if_neg (by simp), ← x1, ← y1]
theorem slid_at (s : List S43) (la lb : List Int) (hs : s.length ≤ 1000000000) (hF : fitsS s la lb = none) : ∃ r : List S43, Slid la lb r (sm1 s) (sm3 s) ∧ Ev (fun k => slide_Slide.f k s la lb) (r, none) := by
  have hf := fits_at s la lb (by omega)
  rw [hF] at hf
  have hV : validS s (la.length : Int) (lb.length : Int) = none := by
    unfold fitsS at hF
    split at hF
    · rename_i h; exact Option.isNone_iff_eq_none.mp h
    · exact hF
  have hfit : fitB la lb (la.length : Int) s 0 0 = true := by
    unfold fitsS at hF
    rw [hV, if_pos (show (none : Option Int).isNone = true from rfl)] at hF
    split at hF
    · assumption
    · cases hF
  obtain ⟨hn, hm, hp⟩ := validS_none hV
  have hN := norm_at s (by omega) (la.length : Int) (lb.length : Int) (by omega) (by omega)
  have hnS : normS s (la.length : Int) (lb.length : Int) = (nrm s 0 0 0 0, none) := by unfold normS; rw [hV, if_pos (show (none : Option Int).isNone = true from rfl)]
  rw [hnS] at hN
  have hv0 := nrm_valid0 (la.length : Int) (lb.length : Int) s hp
  have hlen := nrm_length s 0 0 0 0
  obtain ⟨z1, z2, z3⟩ := nrm_facts0 la lb (la.length : Int) (lb.length : Int) s hp
  rw [hfit] at z3
  rw [← z1, ← z2]
  generalize nrm s 0 0 0 0 = l at hN hv0 hlen z3
  have w : wrap64 ((l.length : Int) - 1) = (l.length : Int) - 1 := w_sub l.length (by omega)
  have hB : Behind la lb [] (la.length : Int) (lb.length : Int) := ⟨by show (la.length : Int) - la.length = (lb.length : Int) - lb.length; omega, by simp only [fitB]; rw [show ((la.length : Int) - la.length).toNat = 0 by omega]; rfl, trivial, fun h T e => by cases e⟩
  obtain ⟨r, hr, p1⟩ := slid_loop la lb (by omega) (by omega) l (by omega) l.length [] (la.length : Int) (lb.length : Int) (Nat.le_refl _) (by simp; omega) (by rw [List.take_length]; exact hv0) (by rw [List.take_length]; exact z3) (by omega) (Int.le_refl _) (Int.le_refl _) (fun _ => ⟨rfl, rfl⟩) hB
  rw [List.take_length] at hr
  refine ⟨r, ?_, ?_⟩
  · have e1 : sm1 [] + sm1 l = sm1 l := by show 0 + _ = _; omega
    have e3 : sm3 [] + sm3 l = sm3 l := by show 0 + _ = _; omega
    rw [e1, e3] at hr
    exact hr
  · refine Ev.bind hf (Ev.same (G := fun k => (edits_Normal.f k s (la.length : Int) (lb.length : Int)).bind fun bt => (if bt.2.isNone = true then (slide_Slide.l0 k la lb bt.1 ([] : List (S43)) (wrap64 ((bt.1.length : Int) - 1))) else (some (([] : List (S43)), some (bt.2.getD 0))))) (fun k => by rw [if_pos (show (none : Option Int).isNone = true from rfl)]) (Ev.bind hN ?_))
    refine Ev.same (fun k => ?_) p1
    rw [if_pos (show ((l, none) : List S43 × Option Int).2.isNone = true from rfl), w]; rfl
theorem slid_fits {la lb : List Int} {r : List S43} {S1 S3 : Int} (h : Slid la lb r S1 S3) (h1 : la.length ≤ 4194304) (h2 : lb.length ≤ 4194304) : fitsS r la lb = none := by
  have hV : validS r (la.length : Int) (lb.length : Int) = none := by
    unfold validS
    rw [if_neg (by omega)]
    exact errP_pos h.valid
  unfold fitsS
  rw [hV, if_pos (show (none : Option Int).isNone = true from rfl), if_pos h.fit]
theorem cost_loop (n m : Int) (hn : n ≤ 4194304) (hm : m ≤ 4194304) (s : List S43) (hs : s.length ≤ 4000000000) (d : Nat) : ∀ (i : Nat) (u v a b : Int), i + d = s.length → validP n m (s.drop i) a b → 0 ≤ u → u ≤ a → a ≤ n → 0 ≤ v → v ≤ b → b ≤ m →
    Ev (fun k => selvageref06_Cost.l0 k s u v (i : Int)) (u + sm1 (s.drop i), v + sm3 (s.drop i)) := by
  induction d with
  | zero =>
    intro i u v a b h hv _ _ _ _ _ _
    rw [List.drop_of_length_le (by omega)]
    refine Ev.step (G := fun _ => some (u + sm1 [], v + sm3 [])) (fun k => ?_) (Ev.pure _)
    rw [selvageref06_Cost.l0, if_neg (by omega), show u + sm1 [] = u from Int.add_zero u, show v + sm3 [] = v from Int.add_zero v]
  | succ d ih =>
    intro i u v a b h hv u0 ua an v0 vb bm
    have w1 : wrap64 ((i : Int) + 1) = ((i + 1 : Nat) : Int) := w_add i 1 (by omega)
    rw [drop43 s i (by omega)] at hv ⊢
    obtain ⟨⟨q1, q2, q3, q4, q5, q6, q7, q8, q9, q10⟩, hv2⟩ := hv
    generalize hc : rd_T43 s (i : Int) = c at q1 q2 q3 q4 q5 q6 q7 q8 q9 q10 hv2 ⊢
    have e1 : wrap64 (4611686018427387904 - u) = 4611686018427387904 - u := w64' (by omega) (by omega)
    have e2 : wrap64 (4611686018427387904 - v) = 4611686018427387904 - v := w64' (by omega) (by omega)
    have e3 : wrap64 (u + c.f1) = u + c.f1 := w64' (by omega) (by omega)
    have e4 : wrap64 (v + c.f3) = v + c.f3 := w64' (by omega) (by omega)
    have := ih (i + 1) (u + c.f1) (v + c.f3) _ _ (by omega) hv2 (by omega) (by omega) (by omega) (by omega) (by omega) (by omega)
    rw [show u + c.f1 + sm1 (s.drop (i + 1)) = u + sm1 (c :: s.drop (i + 1)) by show _ = u + (c.f1 + sm1 (s.drop (i + 1))); omega, show v + c.f3 + sm3 (s.drop (i + 1)) = v + sm3 (c :: s.drop (i + 1)) by show _ = v + (c.f3 + sm3 (s.drop (i + 1))); omega] at this
    refine Ev.step (fun k => ?_) this
    rw [selvageref06_Cost.l0, hc, e1, e2, e3, e4, w1, if_pos (by omega), if_pos (by omega), if_neg (by omega), if_neg (by omega), if_neg (by omega), if_neg (by omega), if_neg (by omega), if_neg (by omega)]
theorem cost_at (n m : Int) (hn : n ≤ 4194304) (hm : m ≤ 4194304) (hn0 : 0 ≤ n) (hm0 : 0 ≤ m) (s : List S43) (hs : s.length ≤ 4000000000) (hv : validP n m s 0 0) : Ev (fun k => selvageref06_Cost.f k s) (sm1 s, sm3 s) := by
  have := cost_loop n m hn hm s hs s.length 0 0 0 0 0 (by omega) hv (by omega) (by omega) hn0 (by omega) (by omega) hm0
  rw [List.drop_zero, Int.zero_add, Int.zero_add] at this
  exact this
theorem nm_loop (n m : Int) (hn : n ≤ 4194304) (s : List S43) (hs : s.length ≤ 4000000000) (d : Nat) : ∀ (i : Nat) (a b : Int), i + d = s.length → validP n m (s.drop i) a b → 0 ≤ a → nmP (s.drop i) → Ev (fun k => selvageref07_Normal.l0 k s ((i + 1 : Nat) : Int)) true := by
  induction d with
  | zero =>
    intro i a b h _ _ _
    exact Ev.step (G := fun _ => some true) (fun k => by rw [selvageref07_Normal.l0, if_neg (by omega)]) (Ev.pure _)
  | succ d ih =>
    intro i a b h hv ha hnm
    by_cases hlast : i + 1 = s.length
    · exact Ev.step (G := fun _ => some true) (fun k => by rw [selvageref07_Normal.l0, if_neg (by omega)]) (Ev.pure _)
    · have w1 : wrap64 (((i + 1 : Nat) : Int) + 1) = ((i + 1 + 1 : Nat) : Int) := w_add (i + 1) 1 (by omega)
      have w0 : wrap64 (((i + 1 : Nat) : Int) - 1) = (i : Int) := by rw [w64' (by omega) (by omega)]; omega
      rw [drop43 s i (by omega)] at hv hnm
      obtain ⟨⟨q1, q2, q3, q4, q5, q6, q7, q8, q9, q10⟩, hv2⟩ := hv
      obtain ⟨n1, n2⟩ := hnm
      rw [drop43 s (i + 1) (by omega)] at n1
      have n1' : (rd_T43 s (i : Int)).f0 + (rd_T43 s (i : Int)).f1 ≠ (rd_T43 s ((i + 1 : Nat) : Int)).f0 := n1
      have e1 : wrap64 ((rd_T43 s (i : Int)).f0 + (rd_T43 s (i : Int)).f1) = (rd_T43 s (i : Int)).f0 + (rd_T43 s (i : Int)).f1 := w64' (by omega) (by omega)
      refine Ev.step (fun k => ?_) (ih (i + 1) _ _ (by omega) hv2 (by omega) n2)
      rw [selvageref07_Normal.l0, w0, w1, e1, if_pos (by omega), if_pos (by omega), if_pos (by omega), if_pos (by omega), if_neg n1']
theorem valid_len (n m : Int) : ∀ (r : List S43) (a b : Int), validP n m r a b → a ≤ n → b ≤ m → (r.length : Int) ≤ (n - a) + (m - b)
  | [], a, b, _, h1, h2 => by rw [List.length_nil]; omega
  | c :: t, a, b, h, h1, h2 => by
    obtain ⟨⟨q1, q2, q3, q4, q5, q6, q7, q8, q9, q10⟩, hv⟩ := h
    have := valid_len n m t _ _ hv (by omega) (by omega)
    rw [List.length_cons]; omega
theorem keeps_ev (s : List S43) (la lb : List Int) (hs : s.length ≤ 1000000000) : Ev (fun k => selvagelaw09_SlideKeeps.f k s la lb) true := by
  have tail : Ev (fun k => (selvagelaw09_sure.f k).bind fun t => (some t)) true := Ev.bind ev_sure (Ev.pure _)
  cases hF : fitsS s la lb with
  | some e =>
    have hf := fits_at s la lb (by omega)
    rw [hF] at hf
    have hS : Ev (fun k => slide_Slide.f k s la lb) ([], some e) := Ev.bind hf (Ev.same (G := fun _ => some ([], some e)) (fun k => by rw [if_neg (by simp)]; rfl) (Ev.pure _))
    refine Ev.bind hS (Ev.same (fun k => ?_) tail)
    rw [if_neg (by simp), if_pos (by rfl)]
  | none =>
    have hV : validS s (la.length : Int) (lb.length : Int) = none := by
      unfold fitsS at hF
      split at hF
      · rename_i h; exact Option.isNone_iff_eq_none.mp h
      · exact hF
    obtain ⟨hn, hm, hp⟩ := validS_none hV
    obtain ⟨r, hr, p1⟩ := slid_at s la lb hs hF
    have hF2 := slid_fits hr (by omega) (by omega)
    have hrl := valid_len _ _ r 0 0 hr.valid (by omega) (by omega)
    obtain ⟨r2, hr2, p2⟩ := slid_at r la lb (by omega) hF2
    have hrl2 := valid_len _ _ r2 0 0 hr2.valid (by omega) (by omega)
    have c0 := cost_at (la.length : Int) (lb.length : Int) hn hm (by omega) (by omega) s (by omega) hp
    have c1 := cost_at (la.length : Int) (lb.length : Int) hn hm (by omega) (by omega) r (by omega) hr.valid
    have c2 := cost_at (la.length : Int) (lb.length : Int) hn hm (by omega) (by omega) r2 (by omega) hr2.valid
    have f1 := rfits_at r la lb (by omega)
    rw [hF2] at f1
    have n1 := nm_loop (la.length : Int) (lb.length : Int) hn r (by omega) r.length 0 0 0 (by omega) (by rw [List.drop_zero]; exact hr.valid) (by omega) (by rw [List.drop_zero]; exact hr.nm)
    have n1' : Ev (fun k => selvageref07_Normal.f k r) true := n1
    refine Ev.bind p1 ?_
    refine Ev.same (G := fun k => (slide_Slide.f k r la lb).bind fun bt367 => ((selvageref06_Cost.f k s).bind fun bt371 => ((selvageref06_Cost.f k r).bind fun bt373 => ((selvageref06_Cost.f k bt367.1).bind fun bt375 => (if bt371.1 = bt373.1 then (if bt371.2 = bt373.2 then (if bt375.1 = bt371.1 then (if bt375.2 = bt371.2 then (if bt367.2.isNone = true then ((selvageref06_Fits.f k r la lb).bind fun t378 => (if t378 = 0 then ((selvageref07_Normal.f k r).bind fun t379 => (if t379 = true then ((selvagelaw09_sure.f k).bind fun t380 => (some t380)) else (some false))) else (some false))) else (some false)) else (some false)) else (some false)) else (some false)) else (some false)))))) (fun k => by rw [if_pos (show ((r, none) : List S43 × Option Int).2.isNone = true from rfl)]) ?_
    refine Ev.bind p2 (Ev.bind c0 (Ev.bind c1 (Ev.bind c2 ?_)))
    refine Ev.same (G := fun k => (selvageref06_Fits.f k r la lb).bind fun t378 => (if t378 = 0 then ((selvageref07_Normal.f k r).bind fun t379 => (if t379 = true then ((selvagelaw09_sure.f k).bind fun t380 => (some t380)) else (some false))) else (some false))) (fun k => ?_) ?_
    · rw [if_pos (show ((sm1 s, sm3 s) : Int × Int).1 = ((sm1 r, sm3 r) : Int × Int).1 from hr.s1.symm), if_pos (show ((sm1 s, sm3 s) : Int × Int).2 = ((sm1 r, sm3 r) : Int × Int).2 from hr.s3.symm),
        if_pos (show ((sm1 r2, sm3 r2) : Int × Int).1 = ((sm1 s, sm3 s) : Int × Int).1 from hr2.s1.trans hr.s1), if_pos (show ((sm1 r2, sm3 r2) : Int × Int).2 = ((sm1 s, sm3 s) : Int × Int).2 from hr2.s3.trans hr.s3), if_pos (show ((r2, none) : List S43 × Option Int).2.isNone = true from rfl)]
    · refine Ev.bind f1 (Ev.same (G := fun k => (selvageref07_Normal.f k r).bind fun t379 => (if t379 = true then ((selvagelaw09_sure.f k).bind fun t380 => (some t380)) else (some false))) (fun k => by rw [if_pos (show num none = 0 from rfl)]) (Ev.bind n1' (Ev.same (fun k => by rw [if_pos rfl]) tail)))
theorem SlideKeeps : ∀ (a0 : List S43) (a1 a2 : List Int), (∀ z ∈ a0, Ext.ok43 z) → (∀ z ∈ a1, (Lit.int IntKind.i64 z).wf = true) → (∀ z ∈ a2, (Lit.int IntKind.i64 z).wf = true) → ((a0.map Ext.wt43).sum + 1) + ((a1.map (fun _ => 1)).sum + 1) + ((a2.map (fun _ => 1)).sum + 1) ≤ 1048576 → ∃ k, selvagelaw09_SlideKeeps.f k a0 a1 a2 = some true := by
  intro a0 a1 a2 _ _ _ hb
  have := sum_wt a0
  exact (keeps_ev a0 a1 a2 (by omega)).get
end Go.Proofs.YtmfanpibpmajnaaDoor.Pure
