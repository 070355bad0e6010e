/-
  path, in plain Lean: parts joined and cut are the parts; the way from a directory to a path leads there: the law PathGoes.
-/
import Derived.Test.YtflkehpgkiomdaaDoorPureG
import Derived.Test.YtflkehpgkiomdaaDoorPg6
namespace Go.Proofs.YtflkehpgkiomdaaDoor.Pure
open Go.RowKit Go.Proofs.YtflkehpgkiomdaaDoor.Pg Go.Proofs.YtflkehpgkiomdaaDoor.Ext Go.Proofs.YtflkehpgkiomdaaDoorW.PrintWords Go.Proofs.YtflkehpgkiomdaaDoorW.PrintLast

/-! ### what is joined, cut -/
theorem joinP_prefix (l : List ByteArray) (sep : ByteArray) (n m : Nat) (h : n ≤ m) : ∃ T : ByteArray, joinP l sep m = joinP l sep n ++ T := by
  induction m with
  | zero => obtain rfl : n = 0 := (by omega); exact ⟨⟨#[]⟩, (app_nil _).symm⟩
  | succ m ih =>
    by_cases e : n = m + 1
    · rw [e]; exact ⟨⟨#[]⟩, (app_nil _).symm⟩
    · obtain ⟨T, hT⟩ := ih (by omega)
      refine ⟨T ++ (if m = 0 then ⟨#[]⟩ else sep) ++ l.getD m ByteArray.empty, ?_⟩
      simp only [joinP]
      rw [hT, app_assoc, app_assoc, app_assoc]
theorem mid_extract (P x T : ByteArray) : ((P ++ x) ++ T).extract P.size (P.size + x.size) = x := by
  apply ba_ext
  rw [Lib.extract_data, app_data, app_data, List.append_assoc, ← data_length P, List.drop_left, Nat.add_sub_cancel_left, ← data_length x, List.take_left]
theorem mid_bt (P x T : ByteArray) (m : Nat) (h : m < x.size) : bt ((P ++ x) ++ T) ((P.size + m : Nat) : Int) = bt x (m : Int) := by
  rw [bt_append_left _ _ _ (by rw [ByteArray.size_append]; omega), bt_append_right]
theorem pcs_skip (s : ByteArray) (m : Nat) : ∀ (d a i : Nat), (∀ j, j < m → ¬ bt s ((i + j : Nat) : Int) = 47) → pcs s (m + d) a i = pcs s d a (i + m) := by
  induction m with
  | zero => intro d a i _; rw [Nat.zero_add, Nat.add_zero]
  | succ m ih =>
    intro d a i h
    rw [show m + 1 + d = (m + d) + 1 by omega]
    simp only [pcs]
    have h0 := h 0 (by omega)
    rw [Nat.add_zero] at h0
    rw [if_neg h0, ih d a (i + 1) (fun j hj => by have := h (j + 1) (by omega); rw [show i + 1 + j = i + (j + 1) by omega]; exact this), show i + 1 + m = i + (m + 1) by omega]
/-- no slash in it -/
def flat (x : ByteArray) : Prop := ∀ m : Nat, m < x.size → ¬ bt x (m : Int) = 47
theorem pcs_join (l : List ByteArray) (hf : ∀ x ∈ l, flat x) (r : Nat) : ∀ (j : Nat) (P : ByteArray), j + r + 1 = l.length → P = joinP l slash j ++ (if j = 0 then ⟨#[]⟩ else slash) →
    P.size ≤ (joinAll l).size ∧ pcs (joinAll l) ((joinAll l).size - P.size) P.size P.size = l.drop j := by
  induction r with
  | zero =>
    intro j P hj hP
    have hx : flat (l.getD j ByteArray.empty) := by
      rw [List.getD_eq_getElem?_getD, List.getElem?_eq_getElem (by omega)]
      exact hf _ (List.getElem_mem _)
    have hs : joinAll l = P ++ l.getD j ByteArray.empty := by
      unfold joinAll
      rw [show l.length = j + 1 by omega, hP]; rfl
    have hsz : (joinAll l).size = P.size + (l.getD j ByteArray.empty).size := by rw [hs, ByteArray.size_append]
    refine ⟨by omega, ?_⟩
    have hsk := pcs_skip (joinAll l) (l.getD j ByteArray.empty).size 0 P.size P.size (fun m hm => by
      rw [hs, ← app_nil (P ++ l.getD j ByteArray.empty), mid_bt _ _ _ _ hm]; exact hx m hm)
    rw [show (joinAll l).size - P.size = (l.getD j ByteArray.empty).size + 0 by omega, hsk, drop_getD l ByteArray.empty j (by omega), List.drop_of_length_le (by omega)]
    simp only [pcs]
    rw [hs, ← app_nil (P ++ l.getD j ByteArray.empty), mid_extract]
  | succ r ih =>
    intro j P hj hP
    have hx : flat (l.getD j ByteArray.empty) := by
      rw [List.getD_eq_getElem?_getD, List.getElem?_eq_getElem (by omega)]
      exact hf _ (List.getElem_mem _)
    have h1 : joinP l slash (j + 1) = P ++ l.getD j ByteArray.empty := by rw [hP]; rfl
    have h2 : joinP l slash (j + 2) = ((P ++ l.getD j ByteArray.empty) ++ slash) ++ l.getD (j + 1) ByteArray.empty := by
      rw [← h1]; rfl
    obtain ⟨T, hT⟩ := joinP_prefix l slash (j + 2) l.length (by omega)
    obtain ⟨i1, i2⟩ := ih (j + 1) ((P ++ l.getD j ByteArray.empty) ++ slash) (by omega) (by rw [h1, if_neg (by omega)])
    obtain ⟨U, hU⟩ : ∃ U : ByteArray, joinAll l = (P ++ l.getD j ByteArray.empty) ++ (slash ++ U) := ⟨l.getD (j + 1) ByteArray.empty ++ T, by
      unfold joinAll; rw [hT, h2]; simp only [app_assoc]⟩
    have hs1 : slash.size = 1 := rfl
    have hsz2 : ((P ++ l.getD j ByteArray.empty) ++ slash).size = P.size + (l.getD j ByteArray.empty).size + 1 := by rw [ByteArray.size_append, ByteArray.size_append, hs1]
    rw [hsz2] at i1 i2
    refine ⟨by omega, ?_⟩
    have hsk := pcs_skip (joinAll l) (l.getD j ByteArray.empty).size ((joinAll l).size - P.size - (l.getD j ByteArray.empty).size) P.size P.size (fun m hm => by
      rw [hU, mid_bt _ _ _ _ hm]; exact hx m hm)
    have h47 : bt (joinAll l) ((P.size + (l.getD j ByteArray.empty).size : Nat) : Int) = 47 := by
      have := bt_append_right (P ++ l.getD j ByteArray.empty) (slash ++ U) 0
      rw [ByteArray.size_append, Nat.add_zero] at this
      rw [hU, this]
      have h3 := bt_append_left slash U 0 (by decide)
      rw [h3]; rfl
    rw [show (joinAll l).size - P.size = (l.getD j ByteArray.empty).size + ((joinAll l).size - P.size - (l.getD j ByteArray.empty).size) by omega, hsk, drop_getD l ByteArray.empty j (by omega)]
    obtain ⟨q, hq⟩ : ∃ q, (joinAll l).size - P.size - (l.getD j ByteArray.empty).size = q + 1 := ⟨(joinAll l).size - P.size - (l.getD j ByteArray.empty).size - 1, by omega⟩
    rw [hq]
    simp only [pcs]
    have hex : (joinAll l).extract P.size (P.size + (l.getD j ByteArray.empty).size) = l.getD j ByteArray.empty := by rw [hU, mid_extract]
    rw [if_pos h47, hex, ← i2]
    congr 2
    omega
theorem pieces_join (l : List ByteArray) (hf : ∀ x ∈ l, flat x) (hl : 0 < l.length) : pieces (joinAll l) = l := by
  have := (pcs_join l hf (l.length - 1) 0 ⟨#[]⟩ (by omega) (by rw [if_pos rfl]; rfl)).2
  have h0 : (⟨#[]⟩ : ByteArray).size = 0 := rfl
  rw [h0, Nat.sub_zero, List.drop_zero] at this
  exact this
theorem ok_facts (x : ByteArray) (h : okName x = true) : flat x ∧ ¬ x.toList = ([] : List UInt8) ∧ ¬ x.toList = ([46] : List UInt8) ∧ ¬ x.toList = ([46, 46] : List UInt8) ∧ x.size ≤ 255 := by
  unfold okName at h
  simp only [Bool.and_eq_true, Bool.not_eq_true', beq_eq_false_iff_ne, decide_eq_true_eq] at h
  obtain ⟨⟨⟨⟨h1, h2⟩, h3⟩, h4⟩, h5⟩ := h
  refine ⟨fun m hm h47 => ?_, h1, h3, h4, h2⟩
  obtain ⟨b, hb, hv⟩ := bt_get x m hm
  have hmem : b ∈ x.data.toList := by
    have : b ∈ x.data.toList.drop m := by rw [hb]; exact List.mem_cons_self
    exact List.mem_of_mem_drop this
  have := (nb_int b).mp (List.all_eq_true.mp h5 b hmem)
  omega
theorem joinAll_nil_iff (l : List ByteArray) (hok : l.all okName = true) : (joinAll l).size = 0 ↔ l.length = 0 := by
  have hs := joinAll_size l
  constructor
  · intro h
    by_cases z : l.length = 0
    · exact z
    · rw [if_neg z, h] at hs
      have h0 := (ok_facts (l.getD 0 ByteArray.empty) (by
        rw [List.getD_eq_getElem?_getD, List.getElem?_eq_getElem (by omega)]
        exact List.all_eq_true.mp hok _ (List.getElem_mem _))).2.1
      have h1 : sumP l 1 = (l.getD 0 ByteArray.empty).size := by simp [sumP]
      have h2 := sumP_le l 1 l.length (by omega)
      have h3 : ¬ (l.getD 0 ByteArray.empty).size = 0 := fun e => h0 ((toList_nil _).mpr e)
      omega
  · intro h
    rw [if_pos h] at hs
    omega
theorem parts_join (l : List ByteArray) (hok : l.all okName = true) (h64 : ¬ l.length > 64) (h4096 : ¬ (joinAll l).size > 4096) : parts (joinAll l) = (l, none) := by
  unfold parts
  rw [if_neg h4096]
  by_cases z : l.length = 0
  · rw [if_pos ((joinAll_nil_iff l hok).mpr z), List.eq_nil_of_length_eq_zero z]
  · rw [if_neg (fun e => z ((joinAll_nil_iff l hok).mp e)), pieces_join l (fun x hx => (ok_facts x (List.all_eq_true.mp hok x hx)).1) (by omega)]
    unfold partsOf
    rw [if_pos hok, if_neg h64]

/-! ### the way -/
theorem goL_up (a : List ByteArray) (r : List ByteArray) (m : Nat) : ∀ n, n + m = a.length → goL (List.replicate m dd ++ r) a = goL r (a.take n) := by
  induction m generalizing a with
  | zero => intro n h; rw [List.take_of_length_le (by omega)]; rfl
  | succ m ih =>
    intro n h
    have e1 : ¬ (dd.toList = ([] : List UInt8) ∨ dd.toList = ([46] : List UInt8)) := by rw [Lib.toList_data]; decide
    have e2 : dd.toList = ([46, 46] : List UInt8) := by rw [Lib.toList_data]; rfl
    rw [List.replicate_succ, List.cons_append]
    simp only [goL]
    rw [if_neg e1, if_pos e2, if_neg (by omega), ih (a.take (a.length - 1)) n (by rw [List.length_take]; omega), List.take_take]
    congr 2
    omega
theorem goL_down (r : List ByteArray) : ∀ a, r.all okName = true → goL r a = joinS (a ++ r) := by
  induction r with
  | nil => intro a _; rw [List.append_nil]; rfl
  | cons x r ih =>
    intro a h
    rw [List.all_cons, Bool.and_eq_true] at h
    have f := ok_facts x h.1
    simp only [goL]
    rw [if_neg (fun e => e.elim f.2.1 f.2.2.1), if_neg f.2.2.2.1, if_pos h.1, ih _ h.2, List.append_assoc]
    rfl
theorem cp_same (a b : List ByteArray) (d : Nat) : ∀ i, a.take i = b.take i → a.take (cp a b d i) = b.take (cp a b d i) := by
  induction d with
  | zero => intro i h; exact h
  | succ d ih =>
    intro i h
    simp only [cp]
    split
    · rename_i c
      refine ih (i + 1) ?_
      rw [List.take_add_one, List.take_add_one, h]
      congr 1
      have e := (toList_eq_iff _ _).mp c.2.2
      rw [List.getD_eq_getElem?_getD, List.getD_eq_getElem?_getD] at e
      rw [List.getElem?_eq_getElem c.1, List.getElem?_eq_getElem c.2.1] at e ⊢
      simp only [Option.getD_some] at e
      rw [e]
    · exact h
theorem dd_flat : flat dd := by
  intro m hm
  have : dd.size = 2 := rfl
  match m, hm with
  | 0, _ => decide
  | 1, _ => decide
  | m + 2, h => omega
theorem head_ok (l : List ByteArray) (hl : 0 < l.length) (hf : flat (l.getD 0 ByteArray.empty)) (hne : ¬ (l.getD 0 ByteArray.empty).size = 0) : ¬ (1 ≤ (joinAll l).size ∧ bt (joinAll l) 0 = 47) := by
  rintro ⟨_, h⟩
  obtain ⟨T, hT⟩ := joinP_prefix l slash 1 l.length (by omega)
  have e : joinP l slash 1 = l.getD 0 ByteArray.empty := by simp only [joinP, if_true, empty_app]
  have := bt_append_left (l.getD 0 ByteArray.empty) T 0 (by omega)
  unfold joinAll at h
  rw [hT, e] at h
  exact hf 0 (by omega) (this.symm.trans h)
theorem goes (a b : List ByteArray) (hb : b.all okName = true) (n : Nat) (hna : n ≤ a.length) (hnb : n ≤ b.length) (hs : a.take n = b.take n)
    (hp : parts (joinAll a) = (a, none)) (h4 : ¬ (relS a b n).size > 4096) : goR (joinAll a) (relS a b n) = joinS b := by
  unfold goR
  rw [hp, if_pos none_isNone, if_neg h4]
  have hw := way_length a b n
  have hgo : goL (way a b n) a = joinS b := by
    unfold way
    rw [goL_up a _ (a.length - n) n (by omega), goL_down _ _ (List.all_eq_true.mpr fun x hx => List.all_eq_true.mp hb x (List.mem_of_mem_drop hx)), hs, List.take_append_drop]
  unfold relS
  by_cases z : (way a b n).length = 0
  · rw [if_pos z]
    have e1 : ¬ (1 ≤ (⟨#[46]⟩ : ByteArray).size ∧ bt (⟨#[46]⟩ : ByteArray) 0 = 47) := by decide
    have e2 : pieces (⟨#[46]⟩ : ByteArray) = [(⟨#[46]⟩ : ByteArray)] := by decide
    have e3 : (⟨#[46]⟩ : ByteArray).toList = ([46] : List UInt8) := by rw [Lib.toList_data]
    have hwn : way a b n = [] := List.eq_nil_of_length_eq_zero z
    rw [hwn] at hgo
    rw [if_neg e1, e2]
    simp only [goL] at hgo ⊢
    rw [if_pos (Or.inr e3)]
    exact hgo
  · have hfl : ∀ x ∈ way a b n, flat x := by
      intro x hx
      unfold way at hx
      rcases List.mem_append.mp hx with h | h
      · rw [List.eq_of_mem_replicate h]; exact dd_flat
      · exact (ok_facts x (List.all_eq_true.mp hb x (List.mem_of_mem_drop h))).1
    have h0m : (way a b n).getD 0 ByteArray.empty ∈ way a b n := by
      rw [List.getD_eq_getElem?_getD, List.getElem?_eq_getElem (by omega)]
      exact List.getElem_mem _
    have hne : ¬ ((way a b n).getD 0 ByteArray.empty).size = 0 := by
      have : ∀ x ∈ way a b n, ¬ x.size = 0 := by
        intro x hx
        unfold way at hx
        rcases List.mem_append.mp hx with h | h
        · rw [List.eq_of_mem_replicate h]; decide
        · exact fun e => (ok_facts x (List.all_eq_true.mp hb x (List.mem_of_mem_drop h))).2.1 ((toList_nil x).mpr e)
      exact this _ h0m
    rw [if_neg z, if_neg (head_ok _ (by omega) (hfl _ h0m) hne), pieces_join _ hfl (by omega)]
    exact hgo

theorem joinS_ok (l : List ByteArray) (h : (joinS l).2.isNone = true) : l.all okName = true ∧ ¬ l.length > 64 ∧ ¬ (joinAll l).size > 4096 ∧ joinS l = (joinAll l, none) := by
  unfold joinS at h ⊢
  by_cases c1 : l.all okName = true
  · rw [if_pos c1] at h ⊢
    by_cases c2 : l.length > 64
    · rw [if_pos c2] at h; cases h
    · rw [if_neg c2] at h ⊢
      by_cases c3 : (joinAll l).size > 4096
      · rw [if_pos c3] at h; cases h
      · rw [if_neg c3] at h ⊢
        exact ⟨c1, c2, c3, rfl⟩
  · rw [if_neg c1] at h; cases h
theorem PathGoes : ∀ (l0 l1 : List ByteArray), ((l0.map (·.size)).sum + l0.length + 1) + ((l1.map (·.size)).sum + l1.length + 1) ≤ 1048576 → ∃ k, selvagelaw03_PathGoes.f k l0 l1 = some true := by
  intro l0 l1 hn
  have s0 := sumP_sum l0
  have s1 := sumP_sum l1
  refine ⟨2000000 + 1, ?_⟩
  have jt : ∀ x y, selvagelaw03_PathGoes.j0 (2000000 + 1) x y true = some true := fun x y => by
    simp only [selvagelaw03_PathGoes.j0]
    rw [if_pos trivial, went_at (by omega)]; rfl
  unfold selvagelaw03_PathGoes.f
  rw [join_at l0 (by omega) (by omega) (by omega), Option.bind_some, join_at l1 (by omega) (by omega) (by omega), Option.bind_some]
  by_cases e0 : (joinS l0).2.isNone = true
  · rw [if_pos e0]
    by_cases e1 : (joinS l1).2.isNone = true
    · rw [if_pos e1]
      obtain ⟨a1, a2, a3, a4⟩ := joinS_ok l0 e0
      obtain ⟨b1, b2, b3, b4⟩ := joinS_ok l1 e1
      have pa := parts_join l0 a1 a2 a3
      have pb := parts_join l1 b1 b2 b3
      have hr : relR (joinAll l0) (joinAll l1) = (relS l0 l1 (cp l0 l1 (l0.length + 1) 0), none) := by
        unfold relR
        rw [pa, pb, if_pos none_isNone, if_pos none_isNone]
      obtain ⟨c1, c2⟩ := cp_le l0 l1 (l0.length + 1) 0 (by omega) (by omega)
      have c3 := cp_same l0 l1 (l0.length + 1) 0 rfl
      simp only [selvagelaw03_PathGoes.j0]
      rw [if_neg (by simp), a4, b4]
      simp only
      rw [rel_at _ _ (by omega) (by omega), Option.bind_some, hr]
      simp only
      generalize cp l0 l1 (l0.length + 1) 0 = n at *
      rw [go_at _ _ (by omega) (by omega), Option.bind_some]
      by_cases h4 : (relS l0 l1 n).size > 4096
      · have hg : goR (joinAll l0) (relS l0 l1 n) = (⟨#[]⟩, some 2) := by
          unfold goR
          rw [pa, if_pos none_isNone, if_pos h4]
        rw [if_pos (by omega), if_pos none_isNone, hg, num_at, Option.bind_some, if_pos (show errNum (some 2) = 2 from rfl), went_at (by omega)]; rfl
      · have hg := goes l0 l1 b1 n c1 c2 c3 pa h4
        rw [if_neg (by omega), if_pos none_isNone, hg, b4]
        simp only
        rw [if_pos none_isNone, if_pos trivial, went_at (by omega)]; rfl
    · rw [if_neg e1, jt]
  · rw [if_neg e0, jt]
end Go.Proofs.YtflkehpgkiomdaaDoor.Pure
