/-
  path, in plain Lean: Join, Safe, Below: the program's and the reference's are the same; the law PathSafe.
-/
import Derived.Test.YtflkehpgkiomdaaDoorPureB
import Derived.Test.YtflkehpgkiomdaaDoorPp6
namespace Go.Proofs.YtflkehpgkiomdaaDoor.Pure
open Go.RowKit Go.Proofs.YtflkehpgkiomdaaDoor.Pp Go.Proofs.YtflkehpgkiomdaaDoor.Ext Go.Proofs.YtflkehpgkiomdaaDoorW.PrintWords Go.Proofs.YtflkehpgkiomdaaDoorW.PrintLast

/-! ### Join -/
def joinAll (l : List ByteArray) : ByteArray := joinP l slash l.length
def joinS (l : List ByteArray) : ByteArray × Option Int :=
  if l.all okName = true then (if l.length > 64 then (⟨#[]⟩, some 2) else if (joinAll l).size > 4096 then (⟨#[]⟩, some 2) else (joinAll l, none)) else (⟨#[]⟩, some 30)
theorem joinAll_size (l : List ByteArray) : ((joinAll l).size : Int) = if l.length = 0 then 0 else (l.length : Int) - 1 + (sumP l l.length : Int) := by
  unfold joinAll
  by_cases h : l.length = 0
  · rw [if_pos h, h]; rfl
  · obtain ⟨n, hn⟩ : ∃ n, l.length = n + 1 := ⟨l.length - 1, by omega⟩
    have := joinP_size l slash n
    have hs : slash.size = 1 := rfl
    rw [if_neg h, hn, this, hs]
    omega
theorem join_loop (l : List ByteArray) (hn : l.length ≤ 4000000000) (hsum : sumP l l.length ≤ 4000000000) (d : Nat) : ∀ (k i : Nat) (x : Int), i + d = l.length → d < k → x = (l.length : Int) - 1 + (sumP l i : Int) →
    path_Join.l0 k l x l (l.length : Int) (i : Int) = some (if (l.drop i).all okName = true then (if l.length > 64 then (⟨#[]⟩, some 2) else if (joinAll l).size > 4096 then (⟨#[]⟩, some 2) else (joinAll l, none)) else (⟨#[]⟩, some 30)) := by
  induction d with
  | zero =>
    intro k i x hd hk hx
    obtain ⟨k, rfl⟩ : ∃ m, k = m + 1 := ⟨k - 1, by omega⟩
    have hi : i = l.length := by omega
    simp only [path_Join.l0]
    rw [if_neg (by omega), List.drop_of_length_le (by omega)]
    have hsz := joinAll_size l
    rw [hi] at hx
    by_cases h : l.length > 64
    · rw [if_pos (by omega), if_pos h]; rfl
    · rw [if_neg (by omega), if_neg h]
      by_cases h2 : (joinAll l).size > 4096
      · have : x > 4096 := by
          by_cases z : l.length = 0
          · rw [if_pos z] at hsz; omega
          · rw [if_neg z] at hsz; omega
        rw [if_pos this, if_pos h2]; rfl
      · have : ¬ x > 4096 := by
          by_cases z : l.length = 0
          · have : sumP l l.length = 0 := by rw [z]; rfl
            omega
          · rw [if_neg z] at hsz; omega
        rw [if_neg this, if_neg h2]
        unfold strings_Join.f
        rw [if_pos ⟨by omega, by have e : (⟨#[47]⟩ : ByteArray) = slash := rfl
                                 rw [e]; unfold joinAll at h2; omega⟩]
        rfl
  | succ d ih =>
    intro k i x hd hk hx
    obtain ⟨k, rfl⟩ : ∃ m, k = m + 1 := ⟨k - 1, by omega⟩
    have w1 : wrap64 ((i : Int) + 1) = ((i + 1 : Nat) : Int) := w_add i 1 (by omega)
    have hstep : sumP l (i + 1) = sumP l i + (l.getD i ByteArray.empty).size := rfl
    have hle := sumP_le l (i + 1) l.length (by omega)
    have w2 : wrap64 (x + ((l.getD i ByteArray.empty).size : Int)) = x + ((l.getD i ByteArray.empty).size : Int) := w64' (by omega) (by omega)
    simp only [path_Join.l0, w1, rd_nat, name_at, Option.bind_some, w2]
    rw [if_pos (by omega), if_pos (by omega), if_pos (by omega), ih k (i + 1) _ (by omega) (by omega) (by omega), drop_getD l ByteArray.empty i (by omega), List.all_cons]
    cases okName (l.getD i ByteArray.empty) with
    | true => simp
    | false => simp
theorem join_at (l : List ByteArray) (hn : l.length ≤ 4000000000) (hsum : sumP l l.length ≤ 4000000000) {k : Nat} (hk : l.length < k) : path_Join.f k l = some (joinS l) := by
  unfold path_Join.f
  rw [w_sub l.length (by omega)]
  exact join_loop l hn hsum l.length k 0 _ (by omega) hk (by simp [sumP])
theorem empty_app (s : ByteArray) : (⟨#[]⟩ : ByteArray) ++ s = s := by
  apply ba_ext; rw [app_data]; rfl
theorem refjoin_loop2 (l : List ByteArray) (hn : l.length ≤ 4000000000) (hsum : sumP l l.length ≤ 4000000000) (d : Nat) : ∀ (k i : Nat), i + d = l.length → d < k →
    selvageref03_Join.l1 k l ((joinP l slash i).size : Int) (joinP l slash i) (i : Int) = some (if (joinAll l).size > 4096 then (⟨#[]⟩, 2) else (joinAll l, 0)) := by
  have hbig : ∀ i, i ≤ l.length → (joinP l slash i).size ≤ 8000000001 := fun i hi => by
    have h1 := joinP_le l slash i l.length hi
    have h2 := joinAll_size l
    unfold joinAll at h2
    split at h2 <;> omega
  induction d with
  | zero =>
    intro k i hd hk
    obtain ⟨k, rfl⟩ : ∃ m, k = m + 1 := ⟨k - 1, by omega⟩
    obtain rfl : i = l.length := by omega
    simp only [selvageref03_Join.l1]
    rw [if_neg (by omega)]
    unfold joinAll
    by_cases h : (joinP l slash l.length).size > 4096
    · rw [if_pos (by omega), if_pos h]
    · rw [if_neg (by omega), if_neg h]
  | succ d ih =>
    intro k i hd hk
    obtain ⟨k, rfl⟩ : ∃ m, k = m + 1 := ⟨k - 1, by omega⟩
    have w1 : wrap64 ((i : Int) + 1) = ((i + 1 : Nat) : Int) := w_add i 1 (by omega)
    have hb := hbig i (by omega)
    have hx := hbig (i + 1) (by omega)
    have hs : slash.size = 1 := rfl
    have hi := ih k (i + 1) (by omega) (by omega)
    by_cases h0 : i > 0
    · have e : joinP l slash (i + 1) = joinP l slash i ++ slash ++ l.getD i ByteArray.empty := by
        simp only [joinP]
        rw [if_neg (by omega)]
      rw [e] at hi hx
      rw [ByteArray.size_append, ByteArray.size_append] at hx
      have e2 : (joinP l slash i ++ slash).size = (joinP l slash i).size + slash.size := ByteArray.size_append
      simp only [selvageref03_Join.l1, w1, rd_nat]
      rw [show (⟨#[47]⟩ : ByteArray) = slash from rfl, if_pos (by omega), if_pos (by omega), if_pos (by omega), if_pos (by omega), if_pos (by omega)]
      exact hi
    · obtain rfl : i = 0 := by omega
      have e : joinP l slash 1 = (⟨#[]⟩ : ByteArray) ++ l.getD 0 ByteArray.empty := by
        simp only [joinP, if_true, empty_app]
      have e0 : joinP l slash 0 = (⟨#[]⟩ : ByteArray) := rfl
      rw [Nat.zero_add, e] at hi
      rw [Nat.zero_add, e, ByteArray.size_append] at hx
      rw [e0] at hb ⊢
      simp only [selvageref03_Join.l1, w1, rd_nat]
      rw [if_pos (by omega), if_neg (by omega), if_pos (by omega), if_pos (by omega)]
      exact hi
theorem refjoin_loop (l : List ByteArray) (hn : l.length ≤ 4000000000) (hsum : sumP l l.length ≤ 4000000000) (d : Nat) : ∀ (k i : Nat), i + d = l.length → d + 4000000000 + l.length + 4 ≤ k →
    selvageref03_Join.l0 k l 0 (i : Int) = some (if (l.drop i).all okName = true then (if l.length > 64 then (⟨#[]⟩, 2) else if (joinAll l).size > 4096 then (⟨#[]⟩, 2) else (joinAll l, 0)) else (⟨#[]⟩, 30)) := by
  induction d with
  | zero =>
    intro k i hd hk
    obtain ⟨k, rfl⟩ : ∃ m, k = m + 1 := ⟨k - 1, by omega⟩
    simp only [selvageref03_Join.l0]
    rw [if_neg (by omega), List.drop_of_length_le (by omega)]
    by_cases h : l.length > 64
    · rw [if_pos (by omega), if_pos h]; rfl
    · have := refjoin_loop2 l hn hsum l.length k 0 (by omega) (by omega)
      have e0 : joinP l slash 0 = (⟨#[]⟩ : ByteArray) := rfl
      rw [e0] at this
      rw [if_neg (by omega), if_neg h]
      exact this
  | succ d ih =>
    intro k i hd hk
    obtain ⟨k, rfl⟩ : ∃ m, k = m + 1 := ⟨k - 1, by omega⟩
    have w1 : wrap64 ((i : Int) + 1) = ((i + 1 : Nat) : Int) := w_add i 1 (by omega)
    have hstep : sumP l (i + 1) = sumP l i + (l.getD i ByteArray.empty).size := rfl
    have hle := sumP_le l (i + 1) l.length (by omega)
    simp only [selvageref03_Join.l0, w1, rd_nat]
    rw [if_pos (by omega), if_pos (by omega), refname_at _ (by omega) (by omega), Option.bind_some]
    rw [ih k (i + 1) (by omega) (by omega), drop_getD l ByteArray.empty i (by omega), List.all_cons]
    cases okName (l.getD i ByteArray.empty) with
    | true => simp
    | false => simp
theorem refjoin_at (l : List ByteArray) (hn : l.length ≤ 4000000000) (hsum : sumP l l.length ≤ 4000000000) {k : Nat} (hk : 12000000004 ≤ k) : selvageref03_Join.f k l = some ((joinS l).1, errNum (joinS l).2) := by
  unfold selvageref03_Join.f
  have := refjoin_loop l hn hsum l.length k 0 (by omega) (by omega)
  rw [show ((0 : Nat) : Int) = 0 from rfl, List.drop_zero] at this
  rw [this]
  unfold joinS
  split
  · split
    · rfl
    · split <;> rfl
  · rfl
/-! ### Safe -/
def safeL : List ByteArray → List ByteArray → Option (List ByteArray)
  | [], acc => some acc
  | x :: l, acc =>
    if x.toList = ([46, 46] : List UInt8) then none
    else if x.toList = ([] : List UInt8) then safeL l acc
    else if x.toList = ([46] : List UInt8) then safeL l acc
    else safeL l (acc ++ [x])
def safeS (s : ByteArray) : ByteArray × Option Int :=
  if s.size = 0 ∨ bt s 0 = 47 then (⟨#[]⟩, some 31)
  else match safeL (pieces s) [] with
    | none => (⟨#[]⟩, some 31)
    | some acc => if acc.length = 0 then (⟨#[]⟩, some 30) else joinS acc
theorem sumP_app (a b : List ByteArray) : sumP (a ++ b) (a ++ b).length = sumP a a.length + sumP b b.length := by
  have h1 : ∀ n, n ≤ a.length → sumP (a ++ b) n = sumP a n := fun n => by
    induction n with
    | zero => intro _; rfl
    | succ n ih =>
      intro h
      simp only [sumP]
      rw [ih (by omega), List.getD_eq_getElem?_getD, List.getD_eq_getElem?_getD, List.getElem?_append_left (by omega)]
  have h2 : ∀ n, sumP (a ++ b) (a.length + n) = sumP a a.length + sumP b n := fun n => by
    induction n with
    | zero => exact h1 a.length (Nat.le_refl _)
    | succ n ih =>
      rw [show a.length + (n + 1) = (a.length + n) + 1 by omega]
      simp only [sumP]
      rw [ih, List.getD_eq_getElem?_getD, List.getD_eq_getElem?_getD, List.getElem?_append_right (by omega), Nat.add_sub_cancel_left]
      omega
  rw [List.length_append]
  exact h2 b.length
theorem sumP_cons (x : ByteArray) (l : List ByteArray) : sumP (x :: l) (x :: l).length = x.size + sumP l l.length := by
  have := sumP_app [x] l
  simp only [List.cons_append, List.nil_append] at this
  rw [this]
  simp [sumP]
theorem sumP_sum : ∀ l : List ByteArray, sumP l l.length = (l.map (·.size)).sum
  | [] => rfl
  | x :: l => by rw [sumP_cons, sumP_sum l, List.map_cons, List.sum_cons]
theorem sumP_one (x : ByteArray) : sumP [x] [x].length = x.size := by simp [sumP]
theorem safeL_facts : ∀ (l acc r : List ByteArray), safeL l acc = some r → r.length ≤ acc.length + l.length ∧ sumP r r.length ≤ sumP acc acc.length + sumP l l.length
  | [], acc, r, h => by
    simp only [safeL, Option.some.injEq] at h
    subst h
    simp [sumP]
  | x :: l, acc, r, h => by
    rw [sumP_cons, List.length_cons]
    simp only [safeL] at h
    split at h
    · cases h
    · split at h
      · have := safeL_facts l acc r h; omega
      · split at h
        · have := safeL_facts l acc r h; omega
        · have := safeL_facts l _ r h
          rw [sumP_app, sumP_one, List.length_append, List.length_singleton] at this
          omega
theorem pcs_sum (s : ByteArray) (d : Nat) : ∀ a i, a ≤ i → i + d = s.size → sumP (pcs s d a i) (pcs s d a i).length ≤ s.size - a := by
  induction d with
  | zero =>
    intro a i h1 h2
    simp only [pcs]
    rw [sumP_one, ByteArray.size_extract]; omega
  | succ d ih =>
    intro a i h1 h2
    simp only [pcs]
    split
    · rw [sumP_cons, ByteArray.size_extract]
      have := ih (i + 1) (i + 1) (Nat.le_refl _) (by omega)
      omega
    · exact ih a (i + 1) (by omega) (by omega)
theorem safe_loop (l : List ByteArray) (hn : l.length ≤ 2000000) (hsum : sumP l l.length ≤ 2000000) (d : Nat) : ∀ (k i : Nat) (acc : List ByteArray), i + d = l.length → acc.length ≤ i → sumP acc acc.length ≤ sumP l i → d + l.length + 4 ≤ k →
    path_Safe.l0 k acc l (l.length : Int) (i : Int) = some (match safeL (l.drop i) acc with | none => (⟨#[]⟩, some 31) | some acc => if acc.length = 0 then (⟨#[]⟩, some 30) else joinS acc) := by
  induction d with
  | zero =>
    intro k i acc hd hacc hs hk
    obtain ⟨k, rfl⟩ : ∃ m, k = m + 1 := ⟨k - 1, by omega⟩
    have hle := sumP_le l i l.length (by omega)
    simp only [path_Safe.l0]
    rw [if_neg (by omega), List.drop_of_length_le (by omega)]
    simp only [safeL]
    by_cases h : acc.length = 0
    · rw [if_pos (by omega), if_pos h]
    · rw [if_neg (by omega), if_neg h, join_at acc (by omega) (by omega) (by omega)]; rfl
  | succ d ih =>
    intro k i acc hd hacc hs hk
    obtain ⟨k, rfl⟩ : ∃ m, k = m + 1 := ⟨k - 1, by omega⟩
    have w1 : wrap64 ((i : Int) + 1) = ((i + 1 : Nat) : Int) := w_add i 1 (by omega)
    have hstep : sumP l (i + 1) = sumP l i + (l.getD i ByteArray.empty).size := rfl
    simp only [path_Safe.l0, w1, rd_nat]
    rw [if_pos (by omega), if_pos (by omega), if_pos (by omega), drop_getD l ByteArray.empty i (by omega)]
    simp only [safeL]
    by_cases c1 : (l.getD i ByteArray.empty).toList = ([46, 46] : List UInt8)
    · rw [if_pos c1, if_pos c1]
    · rw [if_neg c1, if_neg c1]
      by_cases c2 : (l.getD i ByteArray.empty).toList = ([] : List UInt8)
      · rw [if_pos c2, if_pos c2]
        exact ih k (i + 1) acc (by omega) (by omega) (by omega) (by omega)
      · rw [if_neg c2, if_neg c2]
        by_cases c3 : (l.getD i ByteArray.empty).toList = ([46] : List UInt8)
        · rw [if_pos c3, if_pos c3]
          exact ih k (i + 1) acc (by omega) (by omega) (by omega) (by omega)
        · rw [if_neg c3, if_neg c3, if_pos (by omega)]
          exact ih k (i + 1) _ (by omega) (by simp; omega) (by rw [sumP_app, sumP_one]; omega) (by omega)
theorem safe_at (s : ByteArray) (hn : s.size ≤ 1048576) {k : Nat} (hk : 3 * s.size + 10 ≤ k) : path_Safe.f k s = some (safeS s) := by
  obtain ⟨k, rfl⟩ : ∃ m, k = m + 1 := ⟨k - 1, by omega⟩
  unfold path_Safe.f safeS
  have jt : path_Safe.j0 (k + 1) s true = some (⟨#[]⟩, some 31) := by simp [path_Safe.j0]
  by_cases h0 : s.size = 0
  · rw [if_pos ((toList_nil s).mpr h0), jt, if_pos (Or.inl h0)]
  · rw [if_neg (fun e => h0 ((toList_nil s).mp e)), if_pos (by omega)]
    by_cases h47 : bt s 0 = 47
    · have : (bt s 0 == 47) = true := by rw [h47]; rfl
      rw [this, jt, if_pos (Or.inr h47)]
    · have : (bt s 0 == 47) = false := beq_eq_false_iff_ne.mpr h47
      rw [this, if_neg (by omega)]
      simp only [path_Safe.j0]
      rw [if_neg (by simp), split_at s (by omega), Option.bind_some]
      have hl := pcs_length s s.size 0 0
      have hs := pcs_sum s s.size 0 0 (Nat.le_refl _) (by omega)
      have := safe_loop (pieces s) (by unfold pieces; omega) (by unfold pieces; omega) (pieces s).length k 0 [] (by omega) (by simp) (by simp [sumP]) (by unfold pieces; omega)
      rw [show ((0 : Nat) : Int) = 0 from rfl, List.drop_zero] at this
      exact this
theorem refsafe_loop (l : List ByteArray) (hn : l.length ≤ 2000000) (hsum : sumP l l.length ≤ 2000000) (d : Nat) : ∀ (k i : Nat) (acc : List ByteArray), i + d = l.length → acc.length ≤ i → sumP acc acc.length ≤ sumP l i → d + 12000000006 ≤ k →
    selvageref03_Safe.l0 k l acc (i : Int) = some (match safeL (l.drop i) acc with | none => (⟨#[]⟩, 31) | some acc => if acc.length = 0 then (⟨#[]⟩, 30) else ((joinS acc).1, errNum (joinS acc).2)) := by
  induction d with
  | zero =>
    intro k i acc hd hacc hs hk
    obtain ⟨k, rfl⟩ : ∃ m, k = m + 1 := ⟨k - 1, by omega⟩
    have hle := sumP_le l i l.length (by omega)
    simp only [selvageref03_Safe.l0]
    rw [if_neg (by omega), List.drop_of_length_le (by omega)]
    simp only [safeL]
    by_cases h : acc.length = 0
    · rw [if_pos (by omega), if_pos h]
    · rw [if_neg (by omega), if_neg h, refjoin_at acc (by omega) (by omega) (by omega)]; rfl
  | succ d ih =>
    intro k i acc hd hacc hs hk
    obtain ⟨k, rfl⟩ : ∃ m, k = m + 1 := ⟨k - 1, by omega⟩
    have w1 : wrap64 ((i : Int) + 1) = ((i + 1 : Nat) : Int) := w_add i 1 (by omega)
    have hstep : sumP l (i + 1) = sumP l i + (l.getD i ByteArray.empty).size := rfl
    simp only [selvageref03_Safe.l0, w1, rd_nat]
    rw [if_pos (by omega), if_pos (by omega), drop_getD l ByteArray.empty i (by omega)]
    simp only [safeL]
    by_cases c1 : (l.getD i ByteArray.empty).toList = ([46, 46] : List UInt8)
    · rw [if_pos c1, if_pos c1]
    · rw [if_neg c1, if_neg c1]
      by_cases c2 : (l.getD i ByteArray.empty).toList = ([] : List UInt8)
      · rw [if_pos c2, if_pos c2]
        exact ih k (i + 1) acc (by omega) (by omega) (by omega) (by omega)
      · rw [if_neg c2, if_neg c2]
        by_cases c3 : (l.getD i ByteArray.empty).toList = ([46] : List UInt8)
        · rw [if_pos c3, if_pos c3]
          exact ih k (i + 1) acc (by omega) (by omega) (by omega) (by omega)
        · rw [if_neg c3, if_neg c3, if_pos (by omega)]
          exact ih k (i + 1) _ (by omega) (by simp; omega) (by rw [sumP_app, sumP_one]; omega) (by omega)
theorem refsafe_at (s : ByteArray) (hn : s.size ≤ 1048576) {k : Nat} (hk : 12010000000 ≤ k) : selvageref03_Safe.f k s = some ((safeS s).1, errNum (safeS s).2) := by
  obtain ⟨k, rfl⟩ : ∃ m, k = m + 1 := ⟨k - 1, by omega⟩
  unfold selvageref03_Safe.f safeS
  have jt : selvageref03_Safe.j0 (k + 1) s true = some (⟨#[]⟩, 31) := by simp [selvageref03_Safe.j0]
  by_cases h0 : s.size = 0
  · rw [if_pos ((toList_nil s).mpr h0), jt, if_pos (Or.inl h0)]; rfl
  · rw [if_neg (fun e => h0 ((toList_nil s).mp e)), if_pos (by omega)]
    by_cases h47 : bt s 0 = 47
    · have : (bt s 0 == 47) = true := by rw [h47]; rfl
      rw [this, jt, if_pos (Or.inr h47)]; rfl
    · have : (bt s 0 == 47) = false := beq_eq_false_iff_ne.mpr h47
      rw [this, if_neg (by omega)]
      simp only [selvageref03_Safe.j0]
      rw [if_neg (by simp), pieces_at s (by omega) (by omega), Option.bind_some]
      have hl := pcs_length s s.size 0 0
      have hs := pcs_sum s s.size 0 0 (Nat.le_refl _) (by omega)
      have := refsafe_loop (pieces s) (by unfold pieces; omega) (by unfold pieces; omega) (pieces s).length k 0 [] (by omega) (by simp) (by simp [sumP]) (by unfold pieces; omega)
      rw [show ((0 : Nat) : Int) = 0 from rfl, List.drop_zero] at this
      rw [this]
      cases safeL (pieces s) [] with
      | none => rfl
      | some acc =>
        simp only
        split <;> rfl

/-! ### Below -/
theorem take_succ_bt (p : ByteArray) (n : Nat) (h : n < p.size) : ∃ b : UInt8, (p.extract 0 (n + 1)).toList = (p.extract 0 n).toList ++ [b] ∧ bt p (n : Int) = (b.toNat : Int) := by
  obtain ⟨b, hb, hv⟩ := bt_get p n h
  refine ⟨b, ?_, hv⟩
  rw [Lib.toList_data, Lib.toList_data, Lib.extract_data, Lib.extract_data, List.drop_zero, Nat.sub_zero, Nat.sub_zero, List.take_add_one]
  have e : p.data.toList[n]? = some b := by
    have := congrArg List.head? hb
    rw [List.head?_drop] at this
    exact this
  rw [e]; rfl
theorem below_eq (d p : ByteArray) (hd : d.size ≤ 4000000000) : path_Below.f d p = selvageref03_Below.f d p ∧ ∃ b, selvageref03_Below.f d p = some b := by
  unfold path_Below.f selvageref03_Below.f
  by_cases h0 : d.toList = ([] : List UInt8)
  · rw [if_pos h0, if_pos h0]; exact ⟨rfl, _, rfl⟩
  · rw [if_neg h0, if_neg h0]
    by_cases h1 : p.toList = d.toList
    · rw [if_pos h1, if_pos h1]; exact ⟨rfl, _, rfl⟩
    · rw [if_neg h1, if_neg h1, if_pos (by omega)]
      have hsz : (d ++ (⟨#[47]⟩ : ByteArray)).size = d.size + 1 := by rw [ByteArray.size_append]; rfl
      unfold strings_HasPrefix.f stringslite_HasPrefix.f
      rw [hsz]
      by_cases h2 : p.size > d.size
      · obtain ⟨b, hb, hv⟩ := take_succ_bt p d.size h2
        rw [if_pos (by omega), if_pos (by omega), if_pos (by omega), if_pos (by omega), if_pos (by omega), if_pos (by omega), Int.toNat_natCast, Int.toNat_natCast, hb, hv]
        have hl : (d ++ (⟨#[47]⟩ : ByteArray)).toList = d.toList ++ [47] := by rw [Lib.toList_data, Lib.toList_data, app_data]
        rw [hl]
        have hb47 : (b == 47) = ((b.toNat : Int) == 47) := by
          rw [Bool.eq_iff_iff, beq_iff_eq, beq_iff_eq]
          constructor
          · rintro rfl; rfl
          · intro h; exact UInt8.toNat_inj.mp (by have : (47 : UInt8).toNat = 47 := rfl; omega)
        rw [← hb47]
        have key : ((p.extract 0 d.size).toList ++ [b] == d.toList ++ [47]) = (((p.extract 0 d.size).toList == d.toList) && (b == 47)) := by
          rw [Bool.eq_iff_iff, Bool.and_eq_true, beq_iff_eq, beq_iff_eq, beq_iff_eq]
          constructor
          · intro h
            have := List.append_inj' h rfl
            exact ⟨this.1, by simpa using this.2⟩
          · rintro ⟨h1, h2⟩; rw [h1, h2]
        simp only [Option.bind_some]
        rw [key]
        by_cases h3 : (p.extract 0 d.size).toList = d.toList
        · rw [if_pos h3, if_pos (by omega), h3]
          simp
        · rw [if_neg h3]
          have : ((p.extract 0 d.size).toList == d.toList) = false := beq_eq_false_iff_ne.mpr h3
          rw [this]
          simp
      · rw [if_neg (by omega), if_neg (by omega)]
        exact ⟨rfl, _, rfl⟩
theorem PathSafe : ∀ (a0 a1 : ByteArray), (a0.size + 1) + (a1.size + 1) ≤ 1048576 → ∃ k, selvagelaw03_PathSafe.f k a0 a1 = some true := by
  intro a0 a1 hn
  refine ⟨12010000000, ?_⟩
  unfold selvagelaw03_PathSafe.f
  obtain ⟨e, b, hb⟩ := below_eq a0 a1 (by omega)
  rw [safe_at a0 (by omega) (by omega), refsafe_at a0 (by omega) (by omega), e, hb, sure_at (by omega)]
  simp only [Option.bind_some, num_at]
  rw [if_pos trivial, if_pos trivial, if_pos (by simp)]
end Go.Proofs.YtflkehpgkiomdaaDoor.Pure
