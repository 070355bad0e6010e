/-
  Slide, in plain Lean: the program's and the document's answers are the same.
-/
import Derived.Test.YtmfanpibpmajnaaDoorPureD
import Derived.Test.YtmfanpibpmajnaaDoorPp15
namespace Go.Proofs.YtmfanpibpmajnaaDoor.Pure
open Go.RowKit Go.Proofs.YtmfanpibpmajnaaDoor.Pp Go.Proofs.YtmfanpibpmajnaaDoor.Ext Go.Proofs.YtmfanpibpmajnaaDoorW.PrintWords Go.Proofs.YtmfanpibpmajnaaDoorW.PrintLast Go.Proofs.YtmfanpibpmajnaaDoorW.PrintMore
theorem nrm_valid (n m : Int) : ∀ (s : List S43) (pa pb qa qb a b : Int), validP n m s qa qb → pa ≤ qa → pb ≤ qb → (pa < qa ∨ pb < qb) → a ≤ pa → b ≤ pb → pa - a = pb - b → qa ≤ n → qb ≤ m → validP n m (nrm s pa pb qa qb) a b
  | [], pa, pb, qa, qb, a, b, hv, h1, h2, h3, h4, h5, h6, h7, h8 => by
    have hv' : n - qa = m - qb := hv
    simp only [nrm]
    rw [gap_some h3]
    refine ⟨⟨?_, ?_, ?_, ?_, ?_, ?_, ?_, ?_, ?_, ?_⟩, ?_⟩
    all_goals first | (show n - (pa + (qa - pa)) = m - (pb + (qb - pb)); omega) | (simp only; omega)
  | c :: t, pa, pb, qa, qb, a, b, hv, h1, h2, h3, h4, h5, h6, h7, h8 => by
    obtain ⟨⟨q1, q2, q3, q4, q5, q6, q7, q8, q9, q10⟩, hv2⟩ := hv
    simp only [nrm]
    by_cases q : qa < c.f0
    · rw [if_pos q, gap_some h3]
      refine ⟨⟨?_, ?_, ?_, ?_, ?_, ?_, ?_, ?_, ?_, ?_⟩, ?_⟩
      all_goals first
        | (simp only; omega)
        | (show validP n m (nrm t c.f0 c.f2 (c.f0 + c.f1) (c.f2 + c.f3)) (pa + (qa - pa)) (pb + (qb - pb))
           rw [show pa + (qa - pa) = qa by omega, show pb + (qb - pb) = qb by omega]
           exact nrm_valid n m t _ _ _ _ _ _ hv2 (by omega) (by omega) (by omega) (by omega) (by omega) (by omega) (by omega) (by omega))
    · rw [if_neg q]
      exact nrm_valid n m t _ _ _ _ _ _ hv2 (by omega) (by omega) (by omega) (by omega) (by omega) (by omega) (by omega) (by omega)
theorem nrm_start (c : S43) (t : List S43) (n m : Int) (h : okC n m 0 0 c) : nrm (c :: t) 0 0 0 0 = nrm t c.f0 c.f2 (c.f0 + c.f1) (c.f2 + c.f3) := by
  obtain ⟨q1, q2, q3, q4, q5, q6, q7, q8, q9, q10⟩ := h
  simp only [nrm]
  by_cases q : 0 < c.f0
  · rw [if_pos q, gap_none, List.nil_append]
  · rw [if_neg q, show c.f0 = 0 by omega, show c.f2 = 0 by omega]
theorem nrm_valid0 (n m : Int) (s : List S43) (hv : validP n m s 0 0) : validP n m (nrm s 0 0 0 0) 0 0 := by
  cases s with
  | nil => show validP n m (gap 0 0 0 0) 0 0; rw [gap_none]; exact hv
  | cons c t =>
    obtain ⟨h, hv2⟩ := hv
    rw [nrm_start c t n m h]
    obtain ⟨q1, q2, q3, q4, q5, q6, q7, q8, q9, q10⟩ := h
    exact nrm_valid n m t _ _ _ _ _ _ hv2 (by omega) (by omega) (by omega) (by omega) (by omega) (by omega) (by omega) (by omega)
theorem gap_length (a b x y : Int) : (gap a b x y).length ≤ 1 := by unfold gap; split <;> simp
theorem nrm_length : ∀ (s : List S43) (pa pb qa qb : Int), (nrm s pa pb qa qb).length ≤ s.length + 1
  | [], pa, pb, qa, qb => gap_length _ _ _ _
  | c :: t, pa, pb, qa, qb => by
    simp only [nrm, List.length_cons]
    split
    · have := nrm_length t c.f0 c.f2 (c.f0 + c.f1) (c.f2 + c.f3)
      have := gap_length pa pb qa qb
      rw [List.length_append]; omega
    · have := nrm_length t pa pb (c.f0 + c.f1) (c.f2 + c.f3)
      omega
theorem valid_snoc (n m : Int) (c : S43) : ∀ (p : List S43) (a b : Int), validP n m (p ++ [c]) a b →
    validP c.f0 c.f2 p a b ∧ a ≤ c.f0 ∧ b ≤ c.f2 ∧ 0 ≤ c.f1 ∧ 0 ≤ c.f3 ∧ (c.f1 ≠ 0 ∨ c.f3 ≠ 0) ∧ c.f0 + c.f1 ≤ n ∧ c.f2 + c.f3 ≤ m ∧ n - (c.f0 + c.f1) = m - (c.f2 + c.f3)
  | [], a, b, h => by
    obtain ⟨⟨q1, q2, q3, q4, q5, q6, q7, q8, q9, q10⟩, hv2⟩ := h
    have hv' : n - (c.f0 + c.f1) = m - (c.f2 + c.f3) := hv2
    exact ⟨q8, q4, q6, q1, q2, q3, by omega, by omega, hv'⟩
  | x :: t, a, b, h => by
    obtain ⟨⟨q1, q2, q3, q4, q5, q6, q7, q8, q9, q10⟩, hv2⟩ := h
    obtain ⟨r1, r2, r3, r4⟩ := valid_snoc n m c t _ _ hv2
    exact ⟨⟨⟨q1, q2, q3, q4, by omega, q6, by omega, q8, by omega, by omega⟩, r1⟩, by omega, by omega, r4⟩
theorem valid_more (t : Int) (ht : 0 ≤ t) : ∀ (p : List S43) (n m a b : Int), validP n m p a b → validP (n + t) (m + t) p a b
  | [], n, m, a, b, h => by have h' : n - a = m - b := h; show n + t - a = m + t - b; omega
  | x :: l, n, m, a, b, h => by
    obtain ⟨⟨q1, q2, q3, q4, q5, q6, q7, q8, q9, q10⟩, hv2⟩ := h
    exact ⟨⟨q1, q2, q3, q4, by omega, q6, by omega, q8, by omega, by omega⟩, valid_more t ht l n m _ _ hv2⟩
structure GoodC (la lb : List Int) (x y : Int) (c : S43) : Prop where
  l1 : la.length ≤ 4194304
  l2 : lb.length ≤ 4194304
  a0 : 0 ≤ c.f0
  n0 : 0 ≤ c.f1
  b0 : 0 ≤ c.f2
  m0 : 0 ≤ c.f3
  ne : c.f1 ≠ 0 ∨ c.f3 ≠ 0
  ax : c.f0 + c.f1 ≤ x
  byy : c.f2 + c.f3 ≤ y
  xl : x ≤ (la.length : Int)
  yl : y ≤ (lb.length : Int)
  even : x - (c.f0 + c.f1) = y - (c.f2 + c.f3)
def slB (la lb : List Int) (x y : Int) (c : S43) : Bool :=
  if c.f3 = 0 then (if c.f0 + c.f1 < x then rd la c.f0 == rd la (c.f0 + c.f1) else false) else if c.f1 = 0 then (if c.f2 + c.f3 < y then rd lb c.f2 == rd lb (c.f2 + c.f3) else false) else false
theorem slB_lt {la lb : List Int} {x y : Int} {c : S43} (g : GoodC la lb x y c) (h : slB la lb x y c = true) : c.f0 + c.f1 < x := by
  have := g.even
  unfold slB at h
  split at h
  · split at h
    · assumption
    · cases h
  · split at h
    · split at h
      · omega
      · cases h
    · cases h
theorem slides_at {la lb : List Int} {x y : Int} {c : S43} (g : GoodC la lb x y c) : Ev (fun k => slide_slides.f k c.f0 c.f1 c.f2 c.f3 la lb x y) (slB la lb x y c) := by
  obtain ⟨g1, g2, g3, g4, g5, g6, g7, g8, g9, g10, g11, g12⟩ := g
  have e1 : wrap64 (c.f0 + c.f1) = c.f0 + c.f1 := w64' (by omega) (by omega)
  have e2 : wrap64 (c.f2 + c.f3) = c.f2 + c.f3 := w64' (by omega) (by omega)
  unfold slB
  by_cases h3 : c.f3 = 0
  · rw [if_pos h3]
    refine Ev.same (G := fun k => slide_slides.j0 k la lb x y true c.f0 c.f1 c.f2 c.f3) (fun k => by unfold slide_slides.f; rw [if_pos h3, decide_eq_true (by omega)]) ?_
    refine Ev.step (G := fun _ => some (if c.f0 + c.f1 < x then rd la c.f0 == rd la (c.f0 + c.f1) else false)) (fun k => ?_) (Ev.pure _)
    rw [slide_slides.j0, if_pos rfl, e1]
    by_cases h : c.f0 + c.f1 < x
    · rw [if_pos h, if_pos (by omega), if_pos (by omega), if_pos (by omega), if_pos (by omega), if_pos h]
    · rw [if_neg h, if_neg h]
  · rw [if_neg h3]
    refine Ev.same (G := fun k => slide_slides.j0 k la lb x y false c.f0 c.f1 c.f2 c.f3) (fun k => by unfold slide_slides.f; rw [if_neg h3]) ?_
    refine Ev.step (G := fun _ => some (if c.f1 = 0 then (if c.f2 + c.f3 < y then rd lb c.f2 == rd lb (c.f2 + c.f3) else false) else false)) (fun k => ?_) (Ev.pure _)
    rw [slide_slides.j0, if_neg (by simp), e2]
    by_cases h1 : c.f1 = 0
    · rw [if_pos h1, if_pos (by omega), if_pos h1]
      by_cases h : c.f2 + c.f3 < y
      · rw [if_pos h, if_pos (by omega), if_pos (by omega), if_pos (by omega), if_pos (by omega), if_pos h]
      · rw [if_neg h, if_neg h]
    · rw [if_neg h1, if_neg h1]
theorem rslides_at {la lb : List Int} {x y : Int} {c : S43} (g : GoodC la lb x y c) : Ev (fun k => selvageref09_slides.f k c.f0 c.f1 c.f2 c.f3 la lb x y) (slB la lb x y c) := by
  obtain ⟨g1, g2, g3, g4, g5, g6, g7, g8, g9, g10, g11, g12⟩ := g
  have e1 : wrap64 (c.f0 + c.f1) = c.f0 + c.f1 := w64' (by omega) (by omega)
  have e2 : wrap64 (c.f2 + c.f3) = c.f2 + c.f3 := w64' (by omega) (by omega)
  unfold slB
  by_cases h3 : c.f3 = 0
  · rw [if_pos h3]
    by_cases h : c.f0 + c.f1 < x
    · refine Ev.same (G := fun k => selvageref09_slides.j0 k la lb y true c.f0 c.f1 c.f2 c.f3) (fun k => by unfold selvageref09_slides.f; rw [if_pos h3, e1, decide_eq_true h]) ?_
      rw [if_pos h]
      refine Ev.step (G := fun _ => some (rd la c.f0 == rd la (c.f0 + c.f1))) (fun k => ?_) (Ev.pure _)
      rw [selvageref09_slides.j0, if_pos rfl, e1, if_pos (by omega), if_pos (by omega), if_pos (by omega), if_pos (by omega)]
    · refine Ev.same (G := fun k => selvageref09_slides.j0 k la lb y false c.f0 c.f1 c.f2 c.f3) (fun k => by unfold selvageref09_slides.f; rw [if_pos h3, e1, decide_eq_false h]) ?_
      rw [if_neg h]
      refine Ev.step (G := fun _ => some false) (fun k => ?_) (Ev.pure _)
      rw [selvageref09_slides.j0, if_neg (by simp), if_neg (by omega)]
  · rw [if_neg h3]
    refine Ev.same (G := fun k => selvageref09_slides.j0 k la lb y false c.f0 c.f1 c.f2 c.f3) (fun k => by unfold selvageref09_slides.f; rw [if_neg h3]) ?_
    refine Ev.step (G := fun _ => some (if c.f1 = 0 then (if c.f2 + c.f3 < y then rd lb c.f2 == rd lb (c.f2 + c.f3) else false) else false)) (fun k => ?_) (Ev.pure _)
    rw [selvageref09_slides.j0, if_neg (by simp), e2]
    by_cases h1 : c.f1 = 0
    · rw [if_pos h1, if_pos h1]
      by_cases h : c.f2 + c.f3 < y
      · rw [if_pos h, if_pos (by omega), if_pos (by omega), if_pos (by omega), if_pos (by omega), if_pos h]
      · rw [if_neg h, if_neg h]
    · rw [if_neg h1, if_neg h1]
def up (c : S43) : S43 := ⟨c.f0 + 1, c.f1, c.f2 + 1, c.f3⟩
def slideN (la lb : List Int) (x y : Int) : Nat → S43 → S43
  | 0, c => c
  | d + 1, c => if slB la lb x y c = true then slideN la lb x y d (up c) else c
theorem GoodC.up {la lb : List Int} {x y : Int} {c : S43} (g : GoodC la lb x y c) (h : c.f0 + c.f1 < x) : GoodC la lb x y (up c) := by
  obtain ⟨g1, g2, g3, g4, g5, g6, g7, g8, g9, g10, g11, g12⟩ := g
  exact ⟨g1, g2, by show 0 ≤ c.f0 + 1; omega, g4, by show 0 ≤ c.f2 + 1; omega, g6, g7, by show c.f0 + 1 + c.f1 ≤ x; omega, by show c.f2 + 1 + c.f3 ≤ y; omega, g10, g11, by show x - (c.f0 + 1 + c.f1) = y - (c.f2 + 1 + c.f3); omega⟩
theorem slideN_facts (la lb : List Int) (x y : Int) (d : Nat) : ∀ c, GoodC la lb x y c → ∃ t : Int, 0 ≤ t ∧ (slideN la lb x y d c).f0 = c.f0 + t ∧ (slideN la lb x y d c).f2 = c.f2 + t ∧ GoodC la lb x y (slideN la lb x y d c) := by
  induction d with
  | zero => intro c g; exact ⟨0, by omega, by simp [slideN], by simp [slideN], g⟩
  | succ d ih =>
    intro c g
    simp only [slideN]
    by_cases h : slB la lb x y c = true
    · rw [if_pos h]
      obtain ⟨t, h0, h1, h2, h3⟩ := ih (up c) (g.up (slB_lt g h))
      exact ⟨t + 1, by omega, by rw [h1]; show c.f0 + 1 + t = _; omega, by rw [h2]; show c.f2 + 1 + t = _; omega, h3⟩
    · rw [if_neg h]
      exact ⟨0, by omega, by omega, by omega, g⟩
def lastOf (out : List S43) : S43 := rd_T43 out (wrap64 ((out.length : Int) - 1))
def addS (out : List S43) (x : Int) (c : S43) : List S43 :=
  if 0 < out.length ∧ c.f0 + c.f1 = x then out.set (out.length - 1) ⟨c.f0, wrap64 (c.f1 + (lastOf out).f1), c.f2, wrap64 (c.f3 + (lastOf out).f3)⟩ else out ++ [c]
theorem w_len (out : List S43) (h : 0 < out.length) (h2 : out.length ≤ 4000000001) : wrap64 ((out.length : Int) - 1) = ((out.length - 1 : Nat) : Int) := by rw [w64' (by omega) (by omega)]; omega
theorem addS_last (out : List S43) (x : Int) (c : S43) (h2 : out.length ≤ 4000000000) : 0 < (addS out x c).length ∧ (addS out x c).length ≤ out.length + 1 ∧ (lastOf (addS out x c)).f0 = c.f0 ∧ (lastOf (addS out x c)).f2 = c.f2 := by
  unfold addS
  split
  · rename_i h
    have hl : (out.set (out.length - 1) (⟨c.f0, wrap64 (c.f1 + (lastOf out).f1), c.f2, wrap64 (c.f3 + (lastOf out).f3)⟩ : S43)).length = out.length := List.length_set ..
    have hr : lastOf (out.set (out.length - 1) (⟨c.f0, wrap64 (c.f1 + (lastOf out).f1), c.f2, wrap64 (c.f3 + (lastOf out).f3)⟩ : S43)) = ⟨c.f0, wrap64 (c.f1 + (lastOf out).f1), c.f2, wrap64 (c.f3 + (lastOf out).f3)⟩ := by
      rw [lastOf, w_len _ (by omega) (by omega), hl]
      unfold rd_T43
      rw [Int.toNat_natCast, List.getD_eq_getElem?_getD, List.getElem?_set_self (by omega)]; rfl
    rw [hr, hl]
    exact ⟨h.1, by omega, rfl, rfl⟩
  · have hl : (out ++ [c]).length = out.length + 1 := by rw [List.length_append, List.length_singleton]
    have hr : lastOf (out ++ [c]) = c := by
      rw [lastOf, w_len _ (by omega) (by omega), hl, Nat.add_sub_cancel]
      exact rd_last out c
    rw [hr, hl]
    exact ⟨by omega, by omega, rfl, rfl⟩
theorem p_inner (la lb : List Int) (l out : List S43) (i : Int) (x y : Int) (ho : out.length ≤ 4000000000) (w : Int) (hw : wrap64 (i - 1) = w) {v : List S43 × Option Int} (d : Nat) : ∀ c, GoodC la lb x y c → x - (c.f0 + c.f1) ≤ (d : Int) →
    Ev (fun k => slide_Slide.l0 k la lb l (addS out x (slideN la lb x y d c)) w) v → Ev (fun k => slide_Slide.l1 k la lb l out i x y c.f0 c.f1 c.f2 c.f3) v := by
  have exit : ∀ c, GoodC la lb x y c → slB la lb x y c = false → Ev (fun k => slide_Slide.l0 k la lb l (addS out x c) w) v → Ev (fun k => slide_Slide.l1 k la lb l out i x y c.f0 c.f1 c.f2 c.f3) v := by
    intro c g hb h
    have e1 : wrap64 (c.f0 + c.f1) = c.f0 + c.f1 := w64' (by have := g.a0; have := g.n0; omega) (by have := g.ax; have := g.xl; have := g.l1; omega)
    refine Ev.step (fun k => by rw [slide_Slide.l1]) (Ev.bind (slides_at g) ?_)
    refine Ev.same (fun k => ?_) h
    rw [hb, if_neg (by simp), e1, hw]
    unfold addS lastOf
    by_cases h0 : 0 < out.length
    · rw [if_pos (show (out.length : Int) > 0 by omega), w_len out h0 (by omega)]
      by_cases hx : c.f0 + c.f1 = x
      · rw [if_pos hx, if_pos (by omega), if_pos (by omega), if_pos ⟨h0, hx⟩, Int.toNat_natCast]
      · rw [if_neg hx, if_pos (by omega), if_neg (fun e => hx e.2)]
    · rw [if_neg (show ¬ (out.length : Int) > 0 by omega), if_pos (by omega), if_neg (fun e => h0 e.1)]
  induction d with
  | zero =>
    intro c g hd h
    refine exit c g ?_ h
    cases hb : slB la lb x y c with
    | false => rfl
    | true => have := slB_lt g hb; omega
  | succ d ih =>
    intro c g hd h
    simp only [slideN] at h
    cases hb : slB la lb x y c with
    | false => rw [hb, if_neg (by simp)] at h; exact exit c g hb h
    | true =>
      rw [hb, if_pos rfl] at h
      have hlt := slB_lt g hb
      have := ih (up c) (g.up hlt) (by show x - (c.f0 + 1 + c.f1) ≤ _; omega) h
      have e1 : wrap64 (c.f0 + 1) = c.f0 + 1 := w64' (by have := g.a0; omega) (by have := g.n0; have := g.xl; have := g.l1; omega)
      have e2 : wrap64 (c.f2 + 1) = c.f2 + 1 := w64' (by have := g.b0; omega) (by have := g.m0; have := g.byy; have := g.yl; have := g.l2; omega)
      refine Ev.step (fun k => by rw [slide_Slide.l1]) (Ev.bind (slides_at g) ?_)
      refine Ev.same (fun k => ?_) this
      rw [hb, if_pos rfl, e1, e2]; rfl
theorem r_inner (la lb : List Int) (l out : List S43) (i : Int) (x y : Int) (ho : out.length ≤ 4000000000) (w : Int) (hw : wrap64 (i - 1) = w) {v : List S43 × Int} (d : Nat) : ∀ c, GoodC la lb x y c → x - (c.f0 + c.f1) ≤ (d : Int) →
    Ev (fun k => selvageref09_Slide.l0 k la lb l (addS out x (slideN la lb x y d c)) (slideN la lb x y d c).f0 (slideN la lb x y d c).f2 w) v → Ev (fun k => selvageref09_Slide.l1 k la lb l out x y i c.f0 c.f1 c.f2 c.f3) v := by
  have exit : ∀ c, GoodC la lb x y c → slB la lb x y c = false → Ev (fun k => selvageref09_Slide.l0 k la lb l (addS out x c) c.f0 c.f2 w) v → Ev (fun k => selvageref09_Slide.l1 k la lb l out x y i c.f0 c.f1 c.f2 c.f3) v := by
    intro c g hb h
    have e1 : wrap64 (c.f0 + c.f1) = c.f0 + c.f1 := w64' (by have := g.a0; have := g.n0; omega) (by have := g.ax; have := g.xl; have := g.l1; omega)
    refine Ev.step (fun k => by rw [selvageref09_Slide.l1]) (Ev.bind (rslides_at g) ?_)
    refine Ev.same (fun k => ?_) h
    rw [hb, if_neg (by simp), e1, hw]
    unfold addS lastOf
    by_cases h0 : 0 < out.length
    · rw [if_pos (show (out.length : Int) > 0 by omega), w_len out h0 (by omega)]
      by_cases hx : c.f0 + c.f1 = x
      · rw [if_pos hx, if_pos (by omega), if_pos (by omega), if_pos ⟨h0, hx⟩, Int.toNat_natCast]
      · rw [if_neg hx, if_pos (by omega), if_neg (fun e => hx e.2)]
    · rw [if_neg (show ¬ (out.length : Int) > 0 by omega), if_pos (by omega), if_neg (fun e => h0 e.1)]
  induction d with
  | zero =>
    intro c g hd h
    refine exit c g ?_ h
    cases hb : slB la lb x y c with
    | false => rfl
    | true => have := slB_lt g hb; omega
  | succ d ih =>
    intro c g hd h
    simp only [slideN] at h
    cases hb : slB la lb x y c with
    | false => rw [hb, if_neg (by simp)] at h; exact exit c g hb h
    | true =>
      rw [hb, if_pos rfl] at h
      have hlt := slB_lt g hb
      have := ih (up c) (g.up hlt) (by show x - (c.f0 + 1 + c.f1) ≤ _; omega) h
      have e1 : wrap64 (c.f0 + 1) = c.f0 + 1 := w64' (by have := g.a0; omega) (by have := g.n0; have := g.xl; have := g.l1; omega)
      have e2 : wrap64 (c.f2 + 1) = c.f2 + 1 := w64' (by have := g.b0; omega) (by have := g.m0; have := g.byy; have := g.yl; have := g.l2; omega)
      refine Ev.step (fun k => by rw [selvageref09_Slide.l1]) (Ev.bind (rslides_at g) ?_)
      refine Ev.same (fun k => ?_) this
      rw [hb, if_pos rfl, e1, e2]; rfl
def revN (out : List S43) : Nat → List S43
  | 0 => []
  | j + 1 => rd_T43 out (j : Int) :: revN out j
theorem revN_length (out : List S43) : ∀ j, (revN out j).length = j
  | 0 => rfl
  | j + 1 => by simp only [revN, List.length_cons, revN_length out j]
theorem p_rev (out : List S43) (ho : out.length ≤ 4000000001) (j : Nat) : ∀ acc : List S43, j ≤ out.length → acc.length + j ≤ 4000000002 → Ev (fun k => slide_Slide.l2 k out acc ((j : Int) - 1)) (acc ++ revN out j, none) := by
  induction j with
  | zero =>
    intro acc h ha
    refine Ev.step (G := fun _ => some (acc ++ revN out 0, none)) (fun k => ?_) (Ev.pure _)
    rw [slide_Slide.l2, if_neg (by omega)]
    show some (acc, none) = some (acc ++ [], none)
    rw [List.append_nil]
  | succ j ih =>
    intro acc h ha
    have e : ((j + 1 : Nat) : Int) - 1 = (j : Int) := by omega
    have w : wrap64 ((j : Int) - 1) = (j : Int) - 1 := w_sub j (by omega)
    have := ih (acc ++ [rd_T43 out (j : Int)]) (by omega) (by rw [List.length_append, List.length_singleton]; omega)
    rw [List.append_assoc] at this
    refine Ev.step (fun k => ?_) this
    rw [e, slide_Slide.l2, w, if_pos (by omega), if_pos (by omega), if_pos (by omega), if_pos (by omega)]
theorem r_rev (out : List S43) (ho : out.length ≤ 4000000001) (j : Nat) : ∀ acc : List S43, j ≤ out.length → acc.length + j ≤ 4000000002 → Ev (fun k => selvageref09_Slide.l2 k out acc ((j : Int) - 1)) (acc ++ revN out j, 0) := by
  induction j with
  | zero =>
    intro acc h ha
    refine Ev.step (G := fun _ => some (acc ++ revN out 0, 0)) (fun k => ?_) (Ev.pure _)
    rw [selvageref09_Slide.l2, if_neg (by omega)]
    show some (acc, (0 : Int)) = some (acc ++ [], 0)
    rw [List.append_nil]
  | succ j ih =>
    intro acc h ha
    have e : ((j + 1 : Nat) : Int) - 1 = (j : Int) := by omega
    have w : wrap64 ((j : Int) - 1) = (j : Int) - 1 := w_sub j (by omega)
    have := ih (acc ++ [rd_T43 out (j : Int)]) (by omega) (by rw [List.length_append, List.length_singleton]; omega)
    rw [List.append_assoc] at this
    refine Ev.step (fun k => ?_) this
    rw [e, selvageref09_Slide.l2, w, if_pos (by omega), if_pos (by omega), if_pos (by omega), if_pos (by omega)]
theorem take_rd (l : List S43) (j : Nat) (h : j < l.length) : l.take (j + 1) = l.take j ++ [rd_T43 l (j : Int)] := by
  unfold rd_T43
  rw [Int.toNat_natCast, List.getD_eq_getElem?_getD, List.getElem?_eq_getElem h, List.take_succ_eq_append_getElem h]; rfl
theorem slide_loop (la lb : List Int) (h1 : la.length ≤ 4194304) (h2 : lb.length ≤ 4194304) (l : List S43) (hl : l.length ≤ 3000000000) (j : Nat) : ∀ (out : List S43) (x y : Int), j ≤ l.length → out.length + j ≤ 3000000000 → validP x y (l.take j) 0 0 → x ≤ la.length → y ≤ lb.length →
    (out.length = 0 → x = la.length ∧ y = lb.length) → (0 < out.length → x = (lastOf out).f0 ∧ y = (lastOf out).f2) →
    ∃ r : List S43, r.length ≤ 3000000001 ∧ Ev (fun k => slide_Slide.l0 k la lb l out ((j : Int) - 1)) (r, none) ∧ Ev (fun k => selvageref09_Slide.l0 k la lb l out x y ((j : Int) - 1)) (r, 0) := by
  induction j with
  | zero =>
    intro out x y hj ho hv hx hy e0 e1
    have w : wrap64 ((out.length : Int) - 1) = (out.length : Int) - 1 := w_sub out.length (by omega)
    refine ⟨revN out out.length, by rw [revN_length]; omega, ?_, ?_⟩
    · have := p_rev out (by omega) out.length [] (Nat.le_refl _) (by simp; omega)
      rw [List.nil_append] at this
      refine Ev.step (fun k => ?_) this
      rw [slide_Slide.l0, if_neg (by omega), w]
    · have := r_rev out (by omega) out.length [] (Nat.le_refl _) (by simp; omega)
      rw [List.nil_append] at this
      refine Ev.step (fun k => ?_) this
      rw [selvageref09_Slide.l0, if_neg (by omega), w]
  | succ j ih =>
    intro out x y hj ho hv hx hy e0 e1
    have e : ((j + 1 : Nat) : Int) - 1 = (j : Int) := by omega
    have w : wrap64 ((j : Int) - 1) = (j : Int) - 1 := w_sub j (by omega)
    rw [take_rd l j (by omega)] at hv
    obtain ⟨v1, v2, v3, v4, v5, v6, v7, v8, v9⟩ := valid_snoc x y _ (l.take j) 0 0 hv
    generalize hc : rd_T43 l (j : Int) = c at v1 v2 v3 v4 v5 v6 v7 v8 v9
    have g : GoodC la lb x y c := ⟨h1, h2, v2, v4, v3, v5, v6, v7, v8, hx, hy, v9⟩
    obtain ⟨t, t0, t1, t2, g'⟩ := slideN_facts la lb x y (x - (c.f0 + c.f1)).toNat c g
    generalize hcs : slideN la lb x y (x - (c.f0 + c.f1)).toNat c = c' at t1 t2 g'
    obtain ⟨a1, a2, a3, a4⟩ := addS_last out x c' (by omega)
    have hv' : validP c'.f0 c'.f2 (l.take j) 0 0 := by rw [t1, t2]; exact valid_more t t0 _ _ _ _ _ v1
    obtain ⟨r, hr, p1, p2⟩ := ih (addS out x c') c'.f0 c'.f2 (by omega) (by omega) hv' (by have := g'.ax; have := g'.n0; omega) (by have := g'.byy; have := g'.m0; omega) (fun z => by omega) (fun _ => ⟨a3.symm, a4.symm⟩)
    refine ⟨r, hr, ?_, ?_⟩
    · rw [e]
      have hin := p_inner la lb l out (j : Int) x y (by omega) _ w (x - (c.f0 + c.f1)).toNat c g (by omega) (by rw [hcs]; exact p1)
      have hj1 : Ev (fun k => slide_Slide.j1 k la lb l out (j : Int) x y c.f0 c.f1 c.f2 c.f3) (r, none) := Ev.step (fun k => by rw [slide_Slide.j1]) hin
      refine Ev.step (fun k => ?_) hj1
      rw [slide_Slide.l0, hc, if_pos (by omega), if_pos (by omega), if_pos (by omega)]
      by_cases h0 : 0 < out.length
      · obtain ⟨x1, y1⟩ := e1 h0
        have hw := w_len out h0 (by omega)
        rw [if_pos (show (out.length : Int) > 0 by omega)]
        have hlo : rd_T43 out (wrap64 ((out.length : Int) - 1)) = lastOf out := rfl
        rw [hlo, ← x1, ← y1, hw, if_pos (by omega), if_pos (by omega)]
      · obtain ⟨x1, y1⟩ := e0 (by omega)
        rw [if_neg (show ¬ (out.length : Int) > 0 by omega), ← x1, ← y1]
    · rw [e]
      have hin := r_inner la lb l out (j : Int) x y (by omega) _ w (x - (c.f0 + c.f1)).toNat c g (by omega) (by rw [hcs]; exact p2)
      refine Ev.step (fun k => ?_) hin
      rw [selvageref09_Slide.l0, hc, if_pos (by omega), if_pos (by omega), if_pos (by omega)]
theorem slide_at (s : List S43) (la lb : List Int) (hs : s.length ≤ 2000000000) : ∃ r : List S43 × Option Int, r.1.length ≤ 3000000001 ∧ Ev (fun k => slide_Slide.f k s la lb) r ∧ Ev (fun k => selvageref09_Slide.f k s la lb) (r.1, num r.2) := by
  have hf := fits_at s la lb (by omega)
  have hrf := rfits_at s la lb (by omega)
  cases hF : fitsS s la lb with
  | some e =>
    rw [hF] at hf hrf
    have he : e ≠ 0 := by
      unfold fitsS at hF
      split at hF
      · split at hF
        · cases hF
        · cases hF; decide
      · exact validS_some hF
    refine ⟨([], some e), by simp, ?_, ?_⟩
    · refine Ev.bind hf (Ev.same (G := fun _ => some ([], some e)) (fun k => by rw [if_neg (by simp)]; rfl) (Ev.pure _))
    · refine Ev.bind hrf (Ev.same (G := fun _ => some ([], e)) (fun k => by rw [if_neg (show ¬ num (some e) = 0 from he)]; rfl) (Ev.pure _))
  | none =>
    rw [hF] at hf hrf
    have hV : validS s (la.length : Int) (lb.length : Int) = none := by
      unfold fitsS at hF
      split at hF
      · rename_i h; exact Option.isNone_iff_eq_none.mp h
      · exact hF
    obtain ⟨hn, hm, hp⟩ := validS_none hV
    have hN := norm_at s (by omega) (la.length : Int) (lb.length : Int) (by omega) (by omega)
    have hRN := rnorm_at s (by omega) (la.length : Int) (lb.length : Int) (by omega) (by omega)
    have hnS : normS s (la.length : Int) (lb.length : Int) = (nrm s 0 0 0 0, none) := by unfold normS; rw [hV, if_pos (show (none : Option Int).isNone = true from rfl)]
    rw [hnS] at hN hRN
    have hv0 := nrm_valid0 (la.length : Int) (lb.length : Int) s hp
    have hlen := nrm_length s 0 0 0 0
    generalize nrm s 0 0 0 0 = l at hN hRN hv0 hlen
    have w : wrap64 ((l.length : Int) - 1) = (l.length : Int) - 1 := w_sub l.length (by omega)
    obtain ⟨r, hr, p1, p2⟩ := slide_loop la lb (by omega) (by omega) l (by omega) l.length [] (la.length : Int) (lb.length : Int) (Nat.le_refl _) (by simp; omega) (by rw [List.take_length]; exact hv0) (Int.le_refl _) (Int.le_refl _) (fun _ => ⟨rfl, rfl⟩) (fun h => by simp at h)
    refine ⟨(r, none), hr, ?_, ?_⟩
    · refine Ev.bind hf (Ev.same (G := fun k => (edits_Normal.f k s (la.length : Int) (lb.length : Int)).bind fun bt => (if bt.2.isNone = true then (slide_Slide.l0 k la lb bt.1 ([] : List (S43)) (wrap64 ((bt.1.length : Int) - 1))) else (some (([] : List (S43)), some (bt.2.getD 0))))) (fun k => by rw [if_pos (show (none : Option Int).isNone = true from rfl)]) (Ev.bind hN ?_))
      refine Ev.same (fun k => ?_) p1
      rw [if_pos (show ((l, none) : List S43 × Option Int).2.isNone = true from rfl), w]
    · refine Ev.bind hrf (Ev.same (G := fun k => (selvageref06_Normal.f k s (la.length : Int) (lb.length : Int)).bind fun bt => selvageref09_Slide.l0 k la lb bt.1 ([] : List (S43)) (la.length : Int) (lb.length : Int) (wrap64 ((bt.1.length : Int) - 1))) (fun k => by rw [if_pos (show num none = 0 from rfl)]) (Ev.bind hRN ?_))
      exact Ev.same (fun k => by rw [w]) p2
end Go.Proofs.YtmfanpibpmajnaaDoor.Pure
