/-
  Edit scripts, in plain Lean: what is valid, the lines that stay, the script with its touching changes put together: the program's and the document's answers are the same.
-/
import Derived.Test.YtmfanpibpmajnaaDoorEPure
import Derived.Test.YtmfanpibpmajnaaDoorPp4
import Derived.Test.YtmfanpibpmajnaaDoorPp10
namespace Go.Proofs.YtmfanpibpmajnaaDoor.Pure
open Go.RowKit Go.Proofs.YtmfanpibpmajnaaDoor.Pp Go.Proofs.YtmfanpibpmajnaaDoor.Ext Go.Proofs.YtmfanpibpmajnaaDoorW.PrintWords Go.Proofs.YtmfanpibpmajnaaDoorW.PrintLast Go.Proofs.YtmfanpibpmajnaaDoorW.PrintMore
def Ev {α : Type} (F : Nat → Option α) (v : α) : Prop := ∃ k0, ∀ k, k0 ≤ k → F k = some v
theorem Ev.pure {α : Type} (v : α) : Ev (fun _ => some v) v := ⟨0, fun _ _ => rfl⟩
theorem Ev.step {α : Type} {F G : Nat → Option α} {v : α} (h : ∀ k, F (k + 1) = G k) (hg : Ev G v) : Ev F v := by
  obtain ⟨k0, hk⟩ := hg
  refine ⟨k0 + 1, fun k hk1 => ?_⟩
  obtain ⟨m, rfl⟩ : ∃ m, k = m + 1 := ⟨k - 1, by omega⟩
  rw [h]
  exact hk m (by omega)
theorem Ev.same {α : Type} {F G : Nat → Option α} {v : α} (h : ∀ k, F k = G k) (hg : Ev G v) : Ev F v := by
  obtain ⟨k0, hk⟩ := hg
  exact ⟨k0, fun k h0 => by rw [h]; exact hk k h0⟩
theorem Ev.bind {α β : Type} {F : Nat → Option α} {G : Nat → α → Option β} {v : α} {u : β} (hF : Ev F v) (hG : Ev (fun k => G k v) u) : Ev (fun k => (F k).bind (G k)) u := by
  obtain ⟨k0, h0⟩ := hF
  obtain ⟨k1, h1⟩ := hG
  refine ⟨max k0 k1, fun k hk => ?_⟩
  show (F k).bind (G k) = some u
  rw [h0 k (by have := Nat.le_max_left k0 k1; omega), Option.bind_some]
  exact h1 k (by have := Nat.le_max_right k0 k1; omega)
theorem Ev.get {α : Type} {F : Nat → Option α} {v : α} (h : Ev F v) : ∃ k, F k = some v := by
  obtain ⟨k0, hk⟩ := h
  exact ⟨k0, hk k0 (Nat.le_refl _)⟩
theorem drop43 (s : List S43) (i : Nat) (h : i < s.length) : s.drop i = rd_T43 s (i : Int) :: s.drop (i + 1) := by
  unfold rd_T43
  rw [Int.toNat_natCast, List.getD_eq_getElem?_getD, List.getElem?_eq_getElem h]
  exact List.drop_eq_getElem_cons h
def okC (n m a b : Int) (c : S43) : Prop :=
  0 ≤ c.f1 ∧ 0 ≤ c.f3 ∧ (c.f1 ≠ 0 ∨ c.f3 ≠ 0) ∧ a ≤ c.f0 ∧ c.f0 ≤ n ∧ b ≤ c.f2 ∧ c.f2 ≤ m ∧ c.f0 - a = c.f2 - b ∧ c.f1 ≤ n - c.f0 ∧ c.f3 ≤ m - c.f2
def validP (n m : Int) : List S43 → Int → Int → Prop
  | [], a, b => n - a = m - b
  | c :: t, a, b => okC n m a b c ∧ validP n m t (c.f0 + c.f1) (c.f2 + c.f3)
open Classical in
noncomputable def errP (p : Prop) : Option Int := if p then none else some 60
theorem errP_pos {p : Prop} (h : p) : errP p = none := by unfold errP; rw [if_pos h]
theorem errP_neg {p : Prop} (h : ¬ p) : errP p = some 60 := by unfold errP; rw [if_neg h]
set_option maxHeartbeats 1000000 in
theorem valid_step (n m a b : Int) (s : List S43) (i : Nat) (hi : i < s.length) (hs : s.length ≤ 4000000000) (hn : n ≤ 4194304) (hm : m ≤ 4194304) (ha : 0 ≤ a) (hb : 0 ≤ b) (k : Nat) :
    (okC n m a b (rd_T43 s (i : Int)) → edits_Valid.l0 (k + 1) n m a b s (s.length : Int) (i : Int) = edits_Valid.l0 k n m ((rd_T43 s (i : Int)).f0 + (rd_T43 s (i : Int)).f1) ((rd_T43 s (i : Int)).f2 + (rd_T43 s (i : Int)).f3) s (s.length : Int) ((i + 1 : Nat) : Int)) ∧
    (¬ okC n m a b (rd_T43 s (i : Int)) → edits_Valid.l0 (k + 1) n m a b s (s.length : Int) (i : Int) = some (some 60)) := by
  have w1 : wrap64 ((i : Int) + 1) = ((i + 1 : Nat) : Int) := w_add i 1 (by omega)
  generalize hc : rd_T43 s (i : Int) = c
  constructor
  · rintro ⟨h1, h2, h3, h4, h5, h6, h7, h8, h9, h10⟩
    have e1 : wrap64 (c.f0 - a) = c.f0 - a := w64' (by omega) (by omega)
    have e2 : wrap64 (c.f2 - b) = c.f2 - b := w64' (by omega) (by omega)
    have e3 : wrap64 (n - c.f0) = n - c.f0 := w64' (by omega) (by omega)
    have e4 : wrap64 (m - c.f2) = m - c.f2 := w64' (by omega) (by omega)
    have e5 : wrap64 (c.f0 + c.f1) = c.f0 + c.f1 := w64' (by omega) (by omega)
    have e6 : wrap64 (c.f2 + c.f3) = c.f2 + c.f3 := w64' (by omega) (by omega)
    simp only [edits_Valid.l0, hc, w1, e1, e2, e3, e4, e5, e6]
    rw [if_pos (by omega), if_pos (by omega), if_pos (by omega), if_neg (by omega), if_neg (by omega)]
    by_cases z : c.f1 = 0
    · rw [if_pos z, if_neg (by omega), if_neg (by omega), if_neg (by omega), if_neg (by omega), if_neg (by omega), if_pos h8, if_neg (by omega), if_neg (by omega)]
    · rw [if_neg z, if_neg (by omega), if_neg (by omega), if_neg (by omega), if_neg (by omega), if_pos h8, if_neg (by omega), if_neg (by omega)]
  · intro hno
    simp only [edits_Valid.l0, hc]
    rw [if_pos (by omega), if_pos (by omega), if_pos (by omega)]
    by_cases q1 : c.f1 < 0
    · rw [if_pos q1]
    rw [if_neg q1]
    by_cases q2 : c.f3 < 0
    · rw [if_pos q2]
    rw [if_neg q2]
    by_cases z : c.f1 = 0
    · rw [if_pos z]
      by_cases z3 : c.f3 = 0
      · rw [if_pos z3]
      rw [if_neg z3]
      by_cases q3 : c.f0 < a
      · rw [if_pos q3]
      rw [if_neg q3]
      by_cases q4 : c.f0 > n
      · rw [if_pos q4]
      rw [if_neg q4]
      by_cases q5 : c.f2 < b
      · rw [if_pos q5]
      rw [if_neg q5]
      by_cases q6 : c.f2 > m
      · rw [if_pos q6]
      rw [if_neg q6]
      have e1 : wrap64 (c.f0 - a) = c.f0 - a := w64' (by omega) (by omega)
      have e2 : wrap64 (c.f2 - b) = c.f2 - b := w64' (by omega) (by omega)
      have e3 : wrap64 (n - c.f0) = n - c.f0 := w64' (by omega) (by omega)
      have e4 : wrap64 (m - c.f2) = m - c.f2 := w64' (by omega) (by omega)
      rw [e1, e2]
      by_cases q7 : c.f0 - a = c.f2 - b
      case neg => rw [if_neg q7]
      rw [if_pos q7, e3]
      by_cases q8 : c.f1 > n - c.f0
      · rw [if_pos q8]
      rw [if_neg q8]
      rw [e4]
      by_cases q9 : c.f3 > m - c.f2
      · rw [if_pos q9]
      rw [if_neg q9]
      exact absurd ⟨by omega, by omega, by omega, by omega, by omega, by omega, by omega, q7, by omega, by omega⟩ hno
    · rw [if_neg z]
      by_cases q3 : c.f0 < a
      · rw [if_pos q3]
      rw [if_neg q3]
      by_cases q4 : c.f0 > n
      · rw [if_pos q4]
      rw [if_neg q4]
      by_cases q5 : c.f2 < b
      · rw [if_pos q5]
      rw [if_neg q5]
      by_cases q6 : c.f2 > m
      · rw [if_pos q6]
      rw [if_neg q6]
      have e1 : wrap64 (c.f0 - a) = c.f0 - a := w64' (by omega) (by omega)
      have e2 : wrap64 (c.f2 - b) = c.f2 - b := w64' (by omega) (by omega)
      have e3 : wrap64 (n - c.f0) = n - c.f0 := w64' (by omega) (by omega)
      have e4 : wrap64 (m - c.f2) = m - c.f2 := w64' (by omega) (by omega)
      rw [e1, e2]
      by_cases q7 : c.f0 - a = c.f2 - b
      case neg => rw [if_neg q7]
      rw [if_pos q7, e3]
      by_cases q8 : c.f1 > n - c.f0
      · rw [if_pos q8]
      rw [if_neg q8]
      rw [e4]
      by_cases q9 : c.f3 > m - c.f2
      · rw [if_pos q9]
      rw [if_neg q9]
      exact absurd ⟨by omega, by omega, by omega, by omega, by omega, by omega, by omega, q7, by omega, by omega⟩ hno
theorem valid_loop (n m : Int) (s : List S43) (hs : s.length ≤ 4000000000) (hn : n ≤ 4194304) (hm : m ≤ 4194304) (d : Nat) : ∀ (i : Nat) (a b : Int), i + d = s.length → 0 ≤ a → a ≤ n → 0 ≤ b → b ≤ m →
    Ev (fun k => edits_Valid.l0 k n m a b s (s.length : Int) (i : Int)) (errP (validP n m (s.drop i) a b)) := by
  induction d with
  | zero =>
    intro i a b hd ha han hb hbm
    rw [List.drop_of_length_le (by omega)]
    refine Ev.step (G := fun _ => some (errP (validP n m [] a b))) (fun k => ?_) (Ev.pure _)
    have e1 : wrap64 (n - a) = n - a := w64' (by omega) (by omega)
    have e2 : wrap64 (m - b) = m - b := w64' (by omega) (by omega)
    simp only [edits_Valid.l0, e1, e2]
    rw [if_neg (by omega)]
    by_cases h : n - a = m - b
    · rw [if_pos h, errP_pos (show validP n m [] a b from h)]
    · rw [if_neg h, errP_neg (show ¬ validP n m [] a b from h)]
  | succ d ih =>
    intro i a b hd ha han hb hbm
    have hst := fun k => valid_step n m a b s i (by omega) hs hn hm ha hb k
    rw [drop43 s i (by omega)]
    by_cases h : okC n m a b (rd_T43 s (i : Int))
    · refine Ev.step (fun k => (hst k).1 h) ?_
      have hk := h
      obtain ⟨h1, h2, h3, h4, h5, h6, h7, h8, h9, h10⟩ := hk
      have := ih (i + 1) ((rd_T43 s (i : Int)).f0 + (rd_T43 s (i : Int)).f1) ((rd_T43 s (i : Int)).f2 + (rd_T43 s (i : Int)).f3) (by omega) (by omega) (by omega) (by omega) (by omega)
      have e : validP n m (rd_T43 s (i : Int) :: s.drop (i + 1)) a b = validP n m (s.drop (i + 1)) ((rd_T43 s (i : Int)).f0 + (rd_T43 s (i : Int)).f1) ((rd_T43 s (i : Int)).f2 + (rd_T43 s (i : Int)).f3) := propext ⟨fun x => x.2, fun x => ⟨h, x⟩⟩
      rw [e]
      exact this
    · refine Ev.step (G := fun _ => some (some 60)) (fun k => (hst k).2 h) ?_
      rw [errP_neg (fun x => h x.1)]
      exact Ev.pure _
noncomputable def validS (s : List S43) (n m : Int) : Option Int := if n > 4194304 ∨ m > 4194304 then some 1 else errP (validP n m s 0 0)
theorem valid_at (s : List S43) (hs : s.length ≤ 4000000000) (n m : Int) (hn : 0 ≤ n) (hm : 0 ≤ m) : Ev (fun k => edits_Valid.f k s n m) (validS s n m) := by
  unfold validS
  have jt : Ev (fun k => edits_Valid.j0 k s n m true) (some 1) := Ev.step (G := fun _ => some (some 1)) (fun k => by simp [edits_Valid.j0]) (Ev.pure _)
  by_cases h1 : n > 4194304
  · rw [if_pos (Or.inl h1)]
    refine Ev.same (fun k => ?_) jt
    unfold edits_Valid.f
    rw [if_neg (by omega), if_pos h1]
  · by_cases h2 : m > 4194304
    · rw [if_pos (Or.inr h2)]
      refine Ev.same (fun k => ?_) jt
      unfold edits_Valid.f
      rw [if_neg (by omega), if_neg h1, if_neg (by omega), decide_eq_true h2]
    · rw [if_neg (by omega)]
      refine Ev.same (G := fun k => edits_Valid.j0 k s n m false) (fun k => ?_) ?_
      · unfold edits_Valid.f
        rw [if_neg (by omega), if_neg h1, if_neg (by omega), decide_eq_false h2]
      · refine Ev.step (G := fun k => edits_Valid.l0 k n m 0 0 s (s.length : Int) 0) (fun k => by simp [edits_Valid.j0]) ?_
        exact valid_loop n m s hs (by omega) (by omega) s.length 0 0 0 (by omega) (by omega) hn (by omega) hm
def num (o : Option Int) : Int := o.getD 0
set_option maxHeartbeats 1000000 in
theorem rvalid_step (n m a b : Int) (s : List S43) (i : Nat) (hi : i < s.length) (hs : s.length ≤ 4000000000) (hn : n ≤ 4194304) (hm : m ≤ 4194304) (ha : 0 ≤ a) (hb : 0 ≤ b) (k : Nat) :
    (okC n m a b (rd_T43 s (i : Int)) → selvageref06_Valid.l0 (k + 1) s n m a b (i : Int) = selvageref06_Valid.l0 k s n m ((rd_T43 s (i : Int)).f0 + (rd_T43 s (i : Int)).f1) ((rd_T43 s (i : Int)).f2 + (rd_T43 s (i : Int)).f3) ((i + 1 : Nat) : Int)) ∧
    (¬ okC n m a b (rd_T43 s (i : Int)) → selvageref06_Valid.l0 (k + 1) s n m a b (i : Int) = some 60) := by
  have w1 : wrap64 ((i : Int) + 1) = ((i + 1 : Nat) : Int) := w_add i 1 (by omega)
  generalize hc : rd_T43 s (i : Int) = c
  constructor
  · rintro ⟨h1, h2, h3, h4, h5, h6, h7, h8, h9, h10⟩
    have e1 : wrap64 (c.f0 - a) = c.f0 - a := w64' (by omega) (by omega)
    have e2 : wrap64 (c.f2 - b) = c.f2 - b := w64' (by omega) (by omega)
    have e3 : wrap64 (n - c.f0) = n - c.f0 := w64' (by omega) (by omega)
    have e4 : wrap64 (m - c.f2) = m - c.f2 := w64' (by omega) (by omega)
    have e5 : wrap64 (c.f0 + c.f1) = c.f0 + c.f1 := w64' (by omega) (by omega)
    have e6 : wrap64 (c.f2 + c.f3) = c.f2 + c.f3 := w64' (by omega) (by omega)
    simp only [selvageref06_Valid.l0, hc, w1, e1, e2, e3, e4, e5, e6]
    rw [if_pos (by omega), if_pos (by omega), if_neg (by omega), if_neg (by omega), if_neg (by omega), if_neg (by omega), if_pos h8, if_neg (by omega), if_neg (by omega), if_neg (by omega), if_neg (by omega)]
    by_cases z : c.f1 = 0
    · rw [if_pos z, if_neg (by omega)]
    · rw [if_neg z]
  · intro hno
    simp only [selvageref06_Valid.l0, hc]
    rw [if_pos (by omega), if_pos (by omega)]
    by_cases q3 : c.f0 < a
    · rw [if_pos q3]
    rw [if_neg q3]
    by_cases q5 : c.f2 < b
    · rw [if_pos q5]
    rw [if_neg q5]
    by_cases q4 : c.f0 > n
    · rw [if_pos q4]
    rw [if_neg q4]
    by_cases q6 : c.f2 > m
    · rw [if_pos q6]
    rw [if_neg q6]
    have e1 : wrap64 (c.f0 - a) = c.f0 - a := w64' (by omega) (by omega)
    have e2 : wrap64 (c.f2 - b) = c.f2 - b := w64' (by omega) (by omega)
    have e3 : wrap64 (n - c.f0) = n - c.f0 := w64' (by omega) (by omega)
    have e4 : wrap64 (m - c.f2) = m - c.f2 := w64' (by omega) (by omega)
    rw [e1, e2]
    by_cases q7 : c.f0 - a = c.f2 - b
    case neg => rw [if_neg q7]
    rw [if_pos q7]
    by_cases q1 : c.f1 < 0
    · rw [if_pos q1]
    rw [if_neg q1]
    by_cases q2 : c.f3 < 0
    · rw [if_pos q2]
    rw [if_neg q2]
    rw [e3]
    by_cases q8 : c.f1 > n - c.f0
    · rw [if_pos q8]
    rw [if_neg q8]
    rw [e4]
    by_cases q9 : c.f3 > m - c.f2
    · rw [if_pos q9]
    rw [if_neg q9]
    by_cases z : c.f1 = 0
    · rw [if_pos z]
      by_cases z3 : c.f3 = 0
      · rw [if_pos z3]
      rw [if_neg z3]
      exact absurd ⟨by omega, by omega, by omega, by omega, by omega, by omega, by omega, q7, by omega, by omega⟩ hno
    · exact absurd ⟨by omega, by omega, by omega, by omega, by omega, by omega, by omega, q7, by omega, by omega⟩ hno
theorem rvalid_loop (n m : Int) (s : List S43) (hs : s.length ≤ 4000000000) (hn : n ≤ 4194304) (hm : m ≤ 4194304) (d : Nat) : ∀ (i : Nat) (a b : Int), i + d = s.length → 0 ≤ a → a ≤ n → 0 ≤ b → b ≤ m →
    Ev (fun k => selvageref06_Valid.l0 k s n m a b (i : Int)) (num (errP (validP n m (s.drop i) a b))) := by
  induction d with
  | zero =>
    intro i a b hd ha han hb hbm
    rw [List.drop_of_length_le (by omega)]
    refine Ev.step (G := fun _ => some (num (errP (validP n m [] a b)))) (fun k => ?_) (Ev.pure _)
    have e1 : wrap64 (n - a) = n - a := w64' (by omega) (by omega)
    have e2 : wrap64 (m - b) = m - b := w64' (by omega) (by omega)
    simp only [selvageref06_Valid.l0, e1, e2]
    rw [if_neg (by omega)]
    by_cases h : n - a = m - b
    · rw [if_pos h, errP_pos (show validP n m [] a b from h)]; rfl
    · rw [if_neg h, errP_neg (show ¬ validP n m [] a b from h)]; rfl
  | succ d ih =>
    intro i a b hd ha han hb hbm
    have hst := fun k => rvalid_step n m a b s i (by omega) hs hn hm ha hb k
    rw [drop43 s i (by omega)]
    by_cases h : okC n m a b (rd_T43 s (i : Int))
    · refine Ev.step (fun k => (hst k).1 h) ?_
      have hk := h
      obtain ⟨h1, h2, h3, h4, h5, h6, h7, h8, h9, h10⟩ := hk
      have := ih (i + 1) ((rd_T43 s (i : Int)).f0 + (rd_T43 s (i : Int)).f1) ((rd_T43 s (i : Int)).f2 + (rd_T43 s (i : Int)).f3) (by omega) (by omega) (by omega) (by omega) (by omega)
      have e : validP n m (rd_T43 s (i : Int) :: s.drop (i + 1)) a b = validP n m (s.drop (i + 1)) ((rd_T43 s (i : Int)).f0 + (rd_T43 s (i : Int)).f1) ((rd_T43 s (i : Int)).f2 + (rd_T43 s (i : Int)).f3) := propext ⟨fun x => x.2, fun x => ⟨h, x⟩⟩
      rw [e]
      exact this
    · refine Ev.step (G := fun _ => some 60) (fun k => (hst k).2 h) ?_
      rw [errP_neg (fun x => h x.1)]
      exact Ev.pure _
theorem rvalid_at (s : List S43) (hs : s.length ≤ 4000000000) (n m : Int) (hn : 0 ≤ n) (hm : 0 ≤ m) : Ev (fun k => selvageref06_Valid.f k s n m) (num (validS s n m)) := by
  unfold validS
  have jt : Ev (fun k => selvageref06_Valid.j0 k s n m true) 1 := Ev.step (G := fun _ => some 1) (fun k => by simp [selvageref06_Valid.j0]) (Ev.pure _)
  by_cases h1 : n > 4194304
  · rw [if_pos (Or.inl h1)]
    refine Ev.same (fun k => ?_) jt
    unfold selvageref06_Valid.f
    rw [if_neg (by omega), if_pos h1]
  · by_cases h2 : m > 4194304
    · rw [if_pos (Or.inr h2)]
      refine Ev.same (fun k => ?_) jt
      unfold selvageref06_Valid.f
      rw [if_neg (by omega), if_neg h1, if_neg (by omega), decide_eq_true h2]
    · rw [if_neg (by omega)]
      refine Ev.same (G := fun k => selvageref06_Valid.j0 k s n m false) (fun k => ?_) ?_
      · unfold selvageref06_Valid.f
        rw [if_neg (by omega), if_neg h1, if_neg (by omega), decide_eq_false h2]
      · refine Ev.step (G := fun k => selvageref06_Valid.l0 k s n m 0 0 0) (fun k => by simp [selvageref06_Valid.j0]) ?_
        exact rvalid_loop n m s hs (by omega) (by omega) s.length 0 0 0 (by omega) (by omega) hn (by omega) hm
end Go.Proofs.YtmfanpibpmajnaaDoor.Pure
