/-
  Edit scripts, in plain Lean: the lines that stay, the script of them, the script with its touching changes put together.
-/
import Derived.Test.YtmfanpibpmajnaaDoorPureA
namespace Go.Proofs.YtmfanpibpmajnaaDoor.Pure
open Go.RowKit Go.Proofs.YtmfanpibpmajnaaDoor.Pp Go.Proofs.YtmfanpibpmajnaaDoor.Ext Go.Proofs.YtmfanpibpmajnaaDoorW.PrintWords Go.Proofs.YtmfanpibpmajnaaDoorW.PrintLast Go.Proofs.YtmfanpibpmajnaaDoorW.PrintMore
theorem drop55 (s : List S55) (i : Nat) (h : i < s.length) : s.drop i = rd_T55 s (i : Int) :: s.drop (i + 1) := by
  unfold rd_T55
  rw [Int.toNat_natCast, List.getD_eq_getElem?_getD, List.getElem?_eq_getElem h]
  exact List.drop_eq_getElem_cons h
def runP (a b : Int) : Nat → List S55
  | 0 => []
  | d + 1 => ⟨a, b⟩ :: runP (a + 1) (b + 1) d
theorem runP_length (d : Nat) : ∀ a b, (runP a b d).length = d := by
  induction d with
  | zero => intro a b; rfl
  | succ d ih => intro a b; simp only [runP, List.length_cons, ih]
def pairsL (n : Int) : List S43 → Int → Int → List S55
  | [], a, b => runP a b (n - a).toNat
  | c :: t, a, b => runP a b (c.f0 - a).toNat ++ pairsL n t (c.f0 + c.f1) (c.f2 + c.f3)
theorem pairsL_length (n m : Int) : ∀ (s : List S43) (a b : Int), validP n m s a b → a ≤ n → ((pairsL n s a b).length : Int) ≤ n - a
  | [], a, b, _, h => by
    simp only [pairsL, runP_length]; omega
  | c :: t, a, b, hv, h => by
    obtain ⟨⟨h1, h2, h3, h4, h5, h6, h7, h8, h9, h10⟩, hv2⟩ := hv
    have := pairsL_length n m t (c.f0 + c.f1) (c.f2 + c.f3) hv2 (by omega)
    simp only [pairsL, List.length_append, runP_length]
    omega
theorem pairs_inner (s : List S43) (n : Int) (i : Nat) (tt : Int) (htt : tt ≤ 4194304) {v : List S55} (d : Nat) : ∀ (out : List S55) (a b : Int), a + (d : Int) = tt → 0 ≤ a → 0 ≤ b → b + (d : Int) ≤ 4194304 → out.length + d ≤ 8000000 →
    Ev (fun k => if (i : Int) < (s.length : Int) then (if 0 ≤ (i : Int) then selvageref06_pairs.l0 k s n (out ++ runP a b d) (wrap64 ((rd_T43 s (i : Int)).f0 + (rd_T43 s (i : Int)).f1)) (wrap64 ((rd_T43 s (i : Int)).f2 + (rd_T43 s (i : Int)).f3)) (wrap64 ((i : Int) + 1)) else none)
      else selvageref06_pairs.l0 k s n (out ++ runP a b d) tt (b + (d : Int)) (wrap64 ((i : Int) + 1))) v →
    Ev (fun k => selvageref06_pairs.l1 k s n out a b (i : Int) tt) v := by
  induction d with
  | zero =>
    intro out a b h ha hb hb2 ho he
    refine Ev.step (fun k => ?_) he
    obtain rfl : a = tt := by omega
    simp only [selvageref06_pairs.l1, runP, List.append_nil]
    rw [if_neg (by omega), show b + ((0 : Nat) : Int) = b by omega]
  | succ d ih =>
    intro out a b h ha hb hb2 ho he
    have e1 : wrap64 (a + 1) = a + 1 := w64' (by omega) (by omega)
    have e2 : wrap64 (b + 1) = b + 1 := w64' (by omega) (by omega)
    refine Ev.step (G := fun k => selvageref06_pairs.l1 k s n (out ++ [⟨a, b⟩]) (a + 1) (b + 1) (i : Int) tt) (fun k => ?_) (ih (out ++ [⟨a, b⟩]) (a + 1) (b + 1) (by omega) (by omega) (by omega) (by omega) (by rw [List.length_append, List.length_singleton]; omega) ?_)
    · simp only [selvageref06_pairs.l1, e1, e2]
      rw [if_pos (by omega), if_pos (by omega)]
    · have e : (out ++ [(⟨a, b⟩ : S55)]) ++ runP (a + 1) (b + 1) d = out ++ runP a b (d + 1) := by rw [List.append_assoc]; rfl
      rw [e, show b + 1 + (d : Int) = b + ((d + 1 : Nat) : Int) by omega]
      exact he
theorem pairs_loop (s : List S43) (n m : Int) (hn : n ≤ 4194304) (hm : m ≤ 4194304) (hs : s.length ≤ 4000000000) (d : Nat) : ∀ (i : Nat) (out : List S55) (a b : Int), i + d = s.length → validP n m (s.drop i) a b → 0 ≤ a → a ≤ n → 0 ≤ b → b ≤ m → (out.length : Int) ≤ a →
    Ev (fun k => selvageref06_pairs.l0 k s n out a b (i : Int)) (out ++ pairsL n (s.drop i) a b) := by
  have w1 : ∀ i : Nat, i ≤ 4000000000 → wrap64 ((i : Int) + 1) = ((i + 1 : Nat) : Int) := fun i h => w_add i 1 (by omega)
  induction d with
  | zero =>
    intro i out a b hd hv ha han hb hbm ho
    rw [List.drop_of_length_le (by omega)] at hv ⊢
    have hv' : n - a = m - b := hv
    refine Ev.step (G := fun k => selvageref06_pairs.j1 k s n out a b (i : Int) n) (fun k => ?_) ?_
    · simp only [selvageref06_pairs.l0]
      rw [if_pos (by omega), if_neg (by omega)]
    · refine Ev.step (G := fun k => selvageref06_pairs.l1 k s n out a b (i : Int) n) (fun k => by simp only [selvageref06_pairs.j1]) ?_
      refine pairs_inner s n i n hn (n - a).toNat out a b (by omega) ha hb (by omega) (by omega) ?_
      refine Ev.same (G := fun k => selvageref06_pairs.l0 k s n (out ++ runP a b (n - a).toNat) n (b + ((n - a).toNat : Int)) ((i + 1 : Nat) : Int)) (fun k => ?_) ?_
      · rw [if_neg (by omega), w1 i (by omega)]
      · refine Ev.step (G := fun _ => some (out ++ runP a b (n - a).toNat)) (fun k => ?_) (Ev.pure _)
        simp only [selvageref06_pairs.l0]
        rw [if_neg (by omega)]
  | succ d ih =>
    intro i out a b hd hv ha han hb hbm ho
    rw [drop43 s i (by omega)] at hv ⊢
    obtain ⟨⟨h1, h2, h3, h4, h5, h6, h7, h8, h9, h10⟩, hv2⟩ := hv
    have e5 : wrap64 ((rd_T43 s (i : Int)).f0 + (rd_T43 s (i : Int)).f1) = (rd_T43 s (i : Int)).f0 + (rd_T43 s (i : Int)).f1 := w64' (by omega) (by omega)
    have e6 : wrap64 ((rd_T43 s (i : Int)).f2 + (rd_T43 s (i : Int)).f3) = (rd_T43 s (i : Int)).f2 + (rd_T43 s (i : Int)).f3 := w64' (by omega) (by omega)
    refine Ev.step (G := fun k => selvageref06_pairs.j1 k s n out a b (i : Int) (rd_T43 s (i : Int)).f0) (fun k => ?_) ?_
    · simp only [selvageref06_pairs.l0]
      rw [if_pos (by omega), if_pos (by omega), if_pos (by omega)]
    · refine Ev.step (G := fun k => selvageref06_pairs.l1 k s n out a b (i : Int) (rd_T43 s (i : Int)).f0) (fun k => by simp only [selvageref06_pairs.j1]) ?_
      refine pairs_inner s n i _ (by omega) ((rd_T43 s (i : Int)).f0 - a).toNat out a b (by omega) ha hb (by omega) (by omega) ?_
      refine Ev.same (G := fun k => selvageref06_pairs.l0 k s n (out ++ runP a b ((rd_T43 s (i : Int)).f0 - a).toNat) ((rd_T43 s (i : Int)).f0 + (rd_T43 s (i : Int)).f1) ((rd_T43 s (i : Int)).f2 + (rd_T43 s (i : Int)).f3) ((i + 1 : Nat) : Int)) (fun k => ?_) ?_
      · rw [if_pos (by omega), if_pos (by omega), w1 i (by omega), e5, e6]
      · have := ih (i + 1) (out ++ runP a b ((rd_T43 s (i : Int)).f0 - a).toNat) _ _ (by omega) hv2 (by omega) (by omega) (by omega) (by omega) (by rw [List.length_append, runP_length]; omega)
        rw [List.append_assoc] at this
        exact this
def gap (a b x y : Int) : List S43 := if a < x ∨ b < y then [⟨a, x - a, b, y - b⟩] else []
theorem gap_none (a b : Int) : gap a b a b = [] := by unfold gap; rw [if_neg (by omega)]
theorem gap_some {a b x y : Int} (h : a < x ∨ b < y) : gap a b x y = [⟨a, x - a, b, y - b⟩] := by unfold gap; rw [if_pos h]
def ofS (n m : Int) : List S55 → Int → Int → List S43
  | [], a, b => gap a b n m
  | p :: t, a, b => gap a b p.f0 p.f1 ++ ofS n m t (p.f0 + 1) (p.f1 + 1)
def inO (n m : Int) : List S55 → Int → Int → Prop
  | [], _, _ => True
  | p :: t, a, b => a ≤ p.f0 ∧ b ≤ p.f1 ∧ p.f0 < n ∧ p.f1 < m ∧ inO n m t (p.f0 + 1) (p.f1 + 1)
theorem inO_weaken {n m : Int} {l : List S55} {a b a' b' : Int} (h : inO n m l a b) (ha : a' ≤ a) (hb : b' ≤ b) : inO n m l a' b' := by
  cases l with
  | nil => exact trivial
  | cons p t => obtain ⟨h1, h2, h3⟩ := h; exact ⟨by omega, by omega, h3⟩
theorem inO_run {n m : Int} {rest : List S55} (d : Nat) : ∀ (a b pa pb : Int), pa ≤ a → pb ≤ b → a + (d : Int) ≤ n → b + (d : Int) ≤ m → inO n m rest (a + (d : Int)) (b + (d : Int)) → inO n m (runP a b d ++ rest) pa pb := by
  induction d with
  | zero => intro a b pa pb h1 h2 h3 h4 h; exact inO_weaken h (by omega) (by omega)
  | succ d ih =>
    intro a b pa pb h1 h2 h3 h4 h
    refine ⟨h1, h2, by show a < n; omega, by show b < m; omega, ih (a + 1) (b + 1) (a + 1) (b + 1) (by omega) (by omega) (by omega) (by omega) ?_⟩
    rw [show a + 1 + (d : Int) = a + ((d + 1 : Nat) : Int) by omega, show b + 1 + (d : Int) = b + ((d + 1 : Nat) : Int) by omega]
    exact h
theorem inO_pairs (n m : Int) : ∀ (s : List S43) (a b : Int), validP n m s a b → a ≤ n → b ≤ m → inO n m (pairsL n s a b) a b
  | [], a, b, hv, ha, hb => by
    have hv' : n - a = m - b := hv
    have := inO_run (n := n) (m := m) (rest := []) (n - a).toNat a b a b (by omega) (by omega) (by omega) (by omega) trivial
    rw [List.append_nil] at this
    exact this
  | c :: t, a, b, hv, ha, hb => by
    obtain ⟨⟨h1, h2, h3, h4, h5, h6, h7, h8, h9, h10⟩, hv2⟩ := hv
    exact inO_run (c.f0 - a).toNat a b a b (by omega) (by omega) (by omega) (by omega) (inO_weaken (inO_pairs n m t _ _ hv2 (by omega) (by omega)) (by omega) (by omega))
theorem of_loop (n m : Int) (hn0 : 0 ≤ n) (hm0 : 0 ≤ m) (hn : n ≤ 4194304) (hm : m ≤ 4194304) (l : List S55) (hl : l.length ≤ 8000000) (d : Nat) : ∀ (i : Nat) (out : List S43) (a b : Int), i + d = l.length → inO n m (l.drop i) a b → 0 ≤ a → a ≤ n → 0 ≤ b → b ≤ m → out.length ≤ i →
    Ev (fun k => selvageref06_Of.l0 k l n m out a b (i : Int)) (out ++ ofS n m (l.drop i) a b, 0) := by
  have w1 : ∀ i : Nat, i ≤ 8000000 → wrap64 ((i : Int) + 1) = ((i + 1 : Nat) : Int) := fun i h => w_add i 1 (by omega)
  have wn : wrap64 (n + 1) = n + 1 := w64' (by omega) (by omega)
  have wm : wrap64 (m + 1) = m + 1 := w64' (by omega) (by omega)
  induction d with
  | zero =>
    intro i out a b hd hv ha han hb hbm ho
    rw [List.drop_of_length_le (by omega)]
    have e1 : wrap64 (n - a) = n - a := w64' (by omega) (by omega)
    have e2 : wrap64 (m - b) = m - b := w64' (by omega) (by omega)
    have last : ∀ o : List S43, Ev (fun k => selvageref06_Of.l0 k l n m o (n + 1) (m + 1) ((i + 1 : Nat) : Int)) (o, 0) := fun o =>
      Ev.step (G := fun _ => some (o, 0)) (fun k => by simp only [selvageref06_Of.l0]; rw [if_neg (by omega)]) (Ev.pure _)
    refine Ev.step (fun k => ?_) (last (out ++ gap a b n m))
    simp only [selvageref06_Of.l0, e1, e2, wn, wm, w1 i (by omega)]
    rw [if_pos (by omega), if_neg (by omega)]
    by_cases h1 : n > a
    · rw [if_pos h1, if_pos (by omega), gap_some (Or.inl h1)]
    · rw [if_neg h1]
      by_cases h2 : m > b
      · rw [if_pos h2, if_pos (by omega), gap_some (Or.inr h2)]
      · rw [if_neg h2]
        unfold gap
        rw [if_neg (by omega), List.append_nil]
  | succ d ih =>
    intro i out a b hd hv ha han hb hbm ho
    rw [drop55 l i (by omega)] at hv ⊢
    obtain ⟨h1, h2, h3, h4, hv2⟩ := hv
    generalize hp : rd_T55 l (i : Int) = p at h1 h2 h3 h4 hv2 ⊢
    have e1 : wrap64 (p.f0 - a) = p.f0 - a := w64' (by omega) (by omega)
    have e2 : wrap64 (p.f1 - b) = p.f1 - b := w64' (by omega) (by omega)
    have e3 : wrap64 (p.f0 + 1) = p.f0 + 1 := w64' (by omega) (by omega)
    have e4 : wrap64 (p.f1 + 1) = p.f1 + 1 := w64' (by omega) (by omega)
    refine Ev.step (G := fun k => selvageref06_Of.j2 k l n m out a b (i : Int) p.f0 p.f1 false) (fun k => ?_) ?_
    · simp only [selvageref06_Of.l0, hp]
      rw [if_pos (by omega), if_pos (by omega), if_pos (by omega), if_neg (by omega), if_neg (by omega), if_neg (by omega), decide_eq_false (by omega)]
    · have := ih (i + 1) (out ++ gap a b p.f0 p.f1) (p.f0 + 1) (p.f1 + 1) (by omega) hv2 (by omega) (by omega) (by omega) (by omega) (by
        rw [List.length_append]; unfold gap; split <;> simp <;> omega)
      rw [List.append_assoc] at this
      refine Ev.step (fun k => ?_) this
      simp only [selvageref06_Of.j2, e1, e2, e3, e4, w1 i (by omega)]
      rw [if_neg (by simp)]
      by_cases q1 : p.f0 > a
      · rw [if_pos q1, if_pos (by omega), gap_some (Or.inl q1)]
      · rw [if_neg q1]
        by_cases q2 : p.f1 > b
        · rw [if_pos q2, if_pos (by omega), gap_some (Or.inr q2)]
        · rw [if_neg q2]
          unfold gap
          rw [if_neg (by omega), List.append_nil]
theorem of_run (n m : Int) (rest : List S55) (d : Nat) : ∀ (a b pa pb : Int), ofS n m (runP a b (d + 1) ++ rest) pa pb = gap pa pb a b ++ ofS n m rest (a + (d : Int) + 1) (b + (d : Int) + 1) := by
  induction d with
  | zero => intro a b pa pb; rw [show a + ((0 : Nat) : Int) + 1 = a + 1 by omega, show b + ((0 : Nat) : Int) + 1 = b + 1 by omega]; rfl
  | succ d ih =>
    intro a b pa pb
    have := ih (a + 1) (b + 1) (a + 1) (b + 1)
    rw [gap_none, List.nil_append] at this
    rw [show a + ((d + 1 : Nat) : Int) + 1 = a + 1 + (d : Int) + 1 by omega, show b + ((d + 1 : Nat) : Int) + 1 = b + 1 + (d : Int) + 1 by omega, ← this]
    rfl
def nrm : List S43 → Int → Int → Int → Int → List S43
  | [], pa, pb, qa, qb => gap pa pb qa qb
  | c :: t, pa, pb, qa, qb => if qa < c.f0 then gap pa pb qa qb ++ nrm t c.f0 c.f2 (c.f0 + c.f1) (c.f2 + c.f3) else nrm t pa pb (c.f0 + c.f1) (c.f2 + c.f3)
theorem of_pairs (n m : Int) : ∀ (s : List S43) (pa pb qa qb : Int), validP n m s qa qb → qa ≤ n → ofS n m (pairsL n s qa qb) pa pb = nrm s pa pb qa qb
  | [], pa, pb, qa, qb, hv, h => by
    have hv' : n - qa = m - qb := hv
    simp only [pairsL, nrm]
    obtain ⟨d, hd⟩ : ∃ d, (n - qa).toNat = d := ⟨_, rfl⟩
    rw [hd]
    cases d with
    | zero => obtain rfl : n = qa := by omega
              obtain rfl : m = qb := by omega
              rfl
    | succ d =>
      have := of_run n m [] d qa qb pa pb
      rw [List.append_nil] at this
      rw [this, show qa + (d : Int) + 1 = n by omega, show qb + (d : Int) + 1 = m by omega]
      show _ ++ gap n m n m = _
      rw [gap_none, List.append_nil]
  | c :: t, pa, pb, qa, qb, hv, h => by
    obtain ⟨⟨h1, h2, h3, h4, h5, h6, h7, h8, h9, h10⟩, hv2⟩ := hv
    simp only [pairsL, nrm]
    by_cases q : qa < c.f0
    · obtain ⟨d, hd⟩ : ∃ d, (c.f0 - qa).toNat = d + 1 := ⟨(c.f0 - qa).toNat - 1, by omega⟩
      rw [if_pos q, hd, of_run, show qa + (d : Int) + 1 = c.f0 by omega, show qb + (d : Int) + 1 = c.f2 by omega, of_pairs n m t _ _ _ _ hv2 (by omega)]
    · rw [if_neg q, show (c.f0 - qa).toNat = 0 by omega]
      exact of_pairs n m t pa pb _ _ hv2 (by omega)
theorem of_at (l : List S55) (n m : Int) (hn0 : 0 ≤ n) (hm0 : 0 ≤ m) (hn : n ≤ 4194304) (hm : m ≤ 4194304) (hl : l.length ≤ 8000000) (hi : inO n m l 0 0) : Ev (fun k => selvageref06_Of.f k l n m) (ofS n m l 0 0, 0) := by
  refine Ev.same (G := fun k => selvageref06_Of.j0 k l n m false) (fun k => ?_) ?_
  · unfold selvageref06_Of.f
    rw [if_neg (by omega), if_neg (by omega), if_neg (by omega), decide_eq_false (by omega)]
  · refine Ev.step (G := fun k => selvageref06_Of.l0 k l n m [] 0 0 0) (fun k => by simp [selvageref06_Of.j0]) ?_
    have := of_loop n m hn0 hm0 hn hm l hl l.length 0 [] 0 0 (by omega) hi (by omega) hn0 (by omega) hm0 (by simp)
    rw [List.nil_append, List.drop_zero] at this
    exact this
theorem validS_none {s : List S43} {n m : Int} (h : validS s n m = none) : n ≤ 4194304 ∧ m ≤ 4194304 ∧ validP n m s 0 0 := by
  unfold validS at h
  split at h
  · cases h
  · rename_i hc
    refine ⟨by omega, by omega, ?_⟩
    unfold errP at h
    split at h
    · assumption
    · cases h
theorem validS_some {s : List S43} {n m : Int} {e : Int} (h : validS s n m = some e) : e ≠ 0 := by
  unfold validS errP at h
  split at h
  · cases h; decide
  · split at h
    · cases h
    · cases h; decide
noncomputable def normS (s : List S43) (n m : Int) : List S43 × Option Int := if (validS s n m).isNone = true then (nrm s 0 0 0 0, none) else ([], validS s n m)
theorem rnorm_at (s : List S43) (hs : s.length ≤ 4000000000) (n m : Int) (hn0 : 0 ≤ n) (hm0 : 0 ≤ m) : Ev (fun k => selvageref06_Normal.f k s n m) ((normS s n m).1, num (normS s n m).2) := by
  refine Ev.bind (rvalid_at s hs n m hn0 hm0) ?_
  unfold normS
  cases hv : validS s n m with
  | none =>
    obtain ⟨hn, hm, hp⟩ := validS_none hv
    refine Ev.same (G := fun k => (selvageref06_pairs.f k s n).bind fun t => (selvageref06_Of.f k t n m).bind fun bt => some (bt.1, bt.2)) (fun k => by rw [if_pos (show num none = 0 from rfl)]) ?_
    have h1 := pairs_loop s n m hn hm hs s.length 0 [] 0 0 (by omega) hp (by omega) hn0 (by omega) hm0 (by simp)
    rw [List.nil_append, List.drop_zero] at h1
    refine Ev.bind h1 ?_
    have hlen := pairsL_length n m s 0 0 hp hn0
    have h2 := of_at (pairsL n s 0 0) n m hn0 hm0 hn hm (by omega) (inO_pairs n m s 0 0 hp hn0 hm0)
    refine Ev.bind h2 ?_
    rw [of_pairs n m s 0 0 0 0 hp hn0]
    exact Ev.pure _
  | some e =>
    have he := validS_some hv
    refine Ev.same (G := fun _ => some ([], e)) (fun k => by rw [if_neg (show ¬ num (some e) = 0 from he)]; rfl) (Ev.pure _)
end Go.Proofs.YtmfanpibpmajnaaDoor.Pure
