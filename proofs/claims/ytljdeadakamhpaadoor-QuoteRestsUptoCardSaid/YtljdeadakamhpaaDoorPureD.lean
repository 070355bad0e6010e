/-
  quote, in plain Lean: what is quoted is read as it was (QuoteBack), names that are not the same are quoted unlike (QuoteApart), and what is left is an end of the text (QuoteRests).
-/
import Derived.Test.YtljdeadakamhpaaDoorPureC
import Derived.Test.YtljdeadakamhpaaDoorPp5
import Derived.Test.YtljdeadakamhpaaDoorPp6
namespace Go.Proofs.YtljdeadakamhpaaDoor.Pure
open Go.RowKit Go.Proofs.YtljdeadakamhpaaDoor.Pp Go.Proofs.YtljdeadakamhpaaDoor.Ext Go.Proofs.YtljdeadakamhpaaDoor.P1 Go.Proofs.YtljdeadakamhpaaDoorW.PrintWords Go.Proofs.YtljdeadakamhpaaDoorW.PrintLast

/-! ### texts and lists -/
theorem ba_ext {s t : ByteArray} (h : s.data.toList = t.data.toList) : s = t := by
  cases s; cases t; simp only at h; congr 1; exact Array.ext' h
theorem toList_eq_iff (s t : ByteArray) : s.toList = t.toList ↔ s = t := by
  rw [Lib.toList_data, Lib.toList_data]
  exact ⟨ba_ext, fun h => by rw [h]⟩
theorem app_data (s t : ByteArray) : (s ++ t).data.toList = s.data.toList ++ t.data.toList := by rw [ByteArray.data_append, Array.toList_append]
theorem ext_left (s t : ByteArray) : (s ++ t).extract 0 s.size = s := by
  apply ba_ext
  rw [Lib.extract_data, app_data, List.drop_zero, Nat.sub_zero, ← data_length s, List.take_left]
theorem ext_right (s t : ByteArray) : (s ++ t).extract s.size (s ++ t).size = t := by
  apply ba_ext
  rw [Lib.extract_data, app_data]
  have : s.size = s.data.toList.length := (data_length s).symm
  rw [this, List.drop_left, List.take_of_length_le]
  rw [ByteArray.size_append]
  have h1 := data_length s
  have h2 := data_length t
  omega
theorem app_nil (s : ByteArray) : s ++ (⟨#[]⟩ : ByteArray) = s := by
  apply ba_ext
  rw [app_data]; simp
theorem bt_nums (L : List Int) (i : Nat) (h : i < L.length) (hr : ∀ x ∈ L, 0 ≤ x ∧ x < 256) : bt (strOfNums L) (i : Int) = L.getD i 0 := by
  rw [bt_list, strOfNums_data, List.getD_eq_getElem?_getD, List.getElem?_map, List.getD_eq_getElem?_getD, List.getElem?_eq_getElem h]
  have := hr _ (List.getElem_mem h)
  simp only [Option.map_some, Option.getD_some]
  rw [UInt8.toNat_ofNat']
  omega
theorem nums_bytes (s : ByteArray) : strOfNums (bytesOf s) = s := by
  apply ba_ext
  rw [strOfNums_data]
  unfold bytesOf
  rw [List.map_map]
  have : ((fun n : Int => UInt8.ofNat n.toNat) ∘ fun b : UInt8 => (b.toNat : Int)) = id := by
    funext b
    simp
  rw [this, List.map_id]
theorem bytes_get (s : ByteArray) (i : Nat) (h : i < s.size) : (bytesOf s)[i]? = some (bt s (i : Int)) := by
  unfold bytesOf
  rw [List.getElem?_map, bt_list, List.getD_eq_getElem?_getD, List.getElem?_eq_getElem (by rw [data_length]; exact h)]
  rfl
theorem bytes_take (s : ByteArray) (i : Nat) (h : i < s.size) : (bytesOf s).take i ++ [bt s (i : Int)] = (bytesOf s).take (i + 1) := by
  rw [List.take_add_one, bytes_get s i h]; rfl

/-! ### an escape is read as the byte -/
def escOk (n : Int) : Bool :=
  match esc n with
  | [l0, l1] => l0 == 92 && meantV l1 == (n, true)
  | [l0, a, b, c] => l0 == 92 && !(meantV a).2 && octD a && decide (a ≤ 51) && octD b && octD c && (octV a b c % 256 == n)
  | [x] => x == n && x != 34 && x != 10 && x != 92
  | _ => false
theorem escOk_all : ∀ n : Fin 256, escOk (n.val : Int) = true := by decide +kernel
theorem escOk_at (c : Int) (h0 : 0 ≤ c) (h1 : c ≤ 255) : escOk c = true := by
  have h := escOk_all ⟨c.toNat, by omega⟩
  have e : ((c.toNat : Nat) : Int) = c := by omega
  simp only [e] at h
  exact h
theorem escShown_all : ∀ n : Fin 256, ∀ x ∈ esc (n.val : Int), 32 ≤ x ∧ x ≤ 126 := by decide +kernel
theorem escShown_at (c : Int) (h0 : 0 ≤ c) (h1 : c ≤ 255) : ∀ x ∈ esc c, 32 ≤ x ∧ x ≤ 126 := by
  have h := escShown_all ⟨c.toNat, by omega⟩
  have e : ((c.toNat : Nat) : Int) = c := by omega
  simp only [e] at h
  exact h

theorem uq_esc (s : ByteArray) (d i : Nat) (acc : List Int) (c : Int) (h0 : 0 ≤ c) (h1 : c ≤ 255)
    (hl : i + (esc c).length ≤ s.size) (hb : ∀ m, m < (esc c).length → bt s ((i + m : Nat) : Int) = (esc c).getD m 0) :
    uq s (d + 1) i acc = uq s d (i + (esc c).length) (acc ++ [c]) := by
  have key := escOk_at c h0 h1
  unfold escOk at key
  simp only [uq]
  split at key
  · rename_i l0 l1 he
    rw [he] at hl hb
    simp only [Bool.and_eq_true, beq_iff_eq] at key
    obtain ⟨k0, k1⟩ := key
    subst k0
    have b0 : bt s (i : Int) = 92 := hb 0 (by simp)
    have b1 : bt s ((i + 1 : Nat) : Int) = l1 := hb 1 (by simp)
    have hl2 : i + 2 ≤ s.size := hl
    rw [b0, if_pos (by omega), if_neg (by decide), if_neg (by decide), if_pos rfl, if_pos hl2, if_pos (by rw [b1, k1]), b1, k1, he]
    rfl
  · rename_i l0 a b c' he
    rw [he] at hl hb
    simp only [Bool.and_eq_true, beq_iff_eq, Bool.not_eq_true', decide_eq_true_eq] at key
    obtain ⟨⟨⟨⟨⟨⟨k0, k1⟩, k2⟩, k3⟩, k4⟩, k5⟩, k6⟩ := key
    subst k0
    have b0 : bt s (i : Int) = 92 := hb 0 (by simp)
    have b1 : bt s ((i + 1 : Nat) : Int) = a := hb 1 (by simp)
    have b2 : bt s ((i + 2 : Nat) : Int) = b := hb 2 (by simp)
    have b3 : bt s ((i + 3 : Nat) : Int) = c' := hb 3 (by simp)
    have hl4 : i + 4 ≤ s.size := hl
    have ho : octAt s i := by
      unfold octAt
      rw [b1, b2, b3]
      exact ⟨hl4, k2, k3, k4, k5⟩
    have hv : octOf s i = c := by
      unfold octOf
      rw [b1, b2, b3]
      exact k6
    rw [b0, if_pos (by omega), if_neg (by decide), if_neg (by decide), if_pos rfl, if_pos (by omega), if_neg (by rw [b1, k1]; decide), if_pos ho, hv, he]
    rfl
  · rename_i x he
    rw [he] at hl hb
    simp only [Bool.and_eq_true, beq_iff_eq, bne_iff_ne] at key
    obtain ⟨⟨⟨k0, k1⟩, k2⟩, k3⟩ := key
    subst k0
    have b0 : bt s (i : Int) = x := hb 0 (by simp)
    have hl1 : i + 1 ≤ s.size := hl
    rw [b0, if_pos (by omega), if_neg k1, if_neg k2, if_neg k3, he]
    rfl
  · cases key

/-! ### what is quoted, within a longer text -/
theorem quoted_split (a : ByteArray) (j n : Nat) (h : j ≤ n) : ∃ T, quotedFrom a n = quotedFrom a j ++ T := by
  induction n with
  | zero => exact ⟨[], by obtain rfl : j = 0 := (by omega); simp⟩
  | succ n ih =>
    by_cases e : j = n + 1
    · exact ⟨[], by rw [e]; simp⟩
    · obtain ⟨T, hT⟩ := ih (by omega)
      exact ⟨T ++ esc (bt a n), by simp only [quotedFrom, hT, List.append_assoc]⟩
theorem quoted_size (a : ByteArray) : (quoted a).size = (quotedFrom a a.size).length + 1 := by
  unfold quoted
  rw [strOfNums_size, List.length_append]; rfl
theorem esc_pos (c : Int) (h0 : 0 ≤ c) (h1 : c ≤ 255) : 1 ≤ (esc c).length := by
  have key := escOk_at c h0 h1
  unfold escOk at key
  split at key
  · rename_i he; rw [he]; simp
  · rename_i he; rw [he]; simp
  · rename_i he; rw [he]; simp
  · cases key
theorem quoted_long (a : ByteArray) (n : Nat) : n + 1 ≤ (quotedFrom a n).length := by
  induction n with
  | zero => simp [quotedFrom]
  | succ n ih =>
    have r := bt_range a n
    have := esc_pos (bt a n) r.1 r.2
    simp only [quotedFrom, List.length_append]
    omega
theorem quoted_head (a : ByteArray) : bt (quoted a) 0 = 34 := by
  obtain ⟨T, hT⟩ := quoted_split a 0 a.size (by omega)
  have := bt_nums (quotedFrom a a.size ++ [34]) 0 (by simp) (quoted_bytes a a.size)
  unfold quoted
  rw [show ((0 : Nat) : Int) = 0 from rfl] at this
  rw [this, hT]
  rfl
theorem quoted_at (a r : ByteArray) (i : Nat) (h : i < (quoted a).size) : bt (quoted a ++ r) (i : Int) = (quotedFrom a a.size ++ [34]).getD i 0 := by
  rw [bt_append_left _ _ _ h]
  rw [quoted_size] at h
  exact bt_nums _ i (by rw [List.length_append]; exact h) (quoted_bytes a a.size)

theorem back_loop (a r : ByteArray) (m : Nat) : ∀ (d j : Nat), j + m = a.size → m < d →
    uq (quoted a ++ r) d (quotedFrom a j).length ((bytesOf a).take j) = some (bytesOf a, (quoted a).size) := by
  induction m with
  | zero =>
    intro d j hj hd
    obtain ⟨d, rfl⟩ : ∃ x, d = x + 1 := ⟨d - 1, by omega⟩
    obtain rfl : j = a.size := by omega
    have hs := quoted_size a
    have hb : bt (quoted a ++ r) ((quotedFrom a a.size).length : Int) = 34 := by
      rw [quoted_at a r _ (by omega), List.getD_eq_getElem?_getD, List.getElem?_append_right (Nat.le_refl _)]
      simp
    simp only [uq]
    rw [if_pos (by rw [ByteArray.size_append]; omega), if_pos hb, List.take_of_length_le (by rw [bytesOf_length]; omega), hs]
  | succ m ih =>
    intro d j hj hd
    obtain ⟨d, rfl⟩ : ∃ x, d = x + 1 := ⟨d - 1, by omega⟩
    have rg := bt_range a j
    obtain ⟨T, hT⟩ := quoted_split a (j + 1) a.size (by omega)
    have hq : quotedFrom a (j + 1) = quotedFrom a j ++ esc (bt a j) := rfl
    have hs := quoted_size a
    have hlen : (quotedFrom a a.size).length = (quotedFrom a j).length + (esc (bt a j)).length + T.length := by
      rw [hT, hq]; simp only [List.length_append]
    rw [uq_esc _ d _ _ (bt a j) rg.1 rg.2 (by rw [ByteArray.size_append]; omega) ?_]
    · rw [bytes_take a j (by omega)]
      have := ih d (j + 1) (by omega) (by omega)
      rw [hq, List.length_append] at this
      exact this
    · intro x hx
      rw [quoted_at a r _ (by omega), hT, hq]
      simp only [List.getD_eq_getElem?_getD, List.append_assoc]
      rw [List.getElem?_append_right (by omega), Nat.add_sub_cancel_left, List.getElem?_append_left hx]

theorem unq_quoted (a r : ByteArray) : unq (quoted a ++ r) = (a, r, none) := by
  have hs := quoted_size a
  have hl := quoted_long a a.size
  have h0 : bt (quoted a ++ r) 0 = 34 := by
    have := bt_append_left (quoted a) r 0 (by omega)
    rw [show ((0 : Nat) : Int) = 0 from rfl] at this
    rw [this, quoted_head]
  unfold unq
  have hsz : (quoted a ++ r).size = (quoted a).size + r.size := ByteArray.size_append
  rw [if_pos (by simp [h0, hsz]; omega)]
  have key := back_loop a r a.size (quoted a ++ r).size 0 (by omega) (by omega)
  have e1 : (quotedFrom a 0).length = 1 := rfl
  have e2 : (bytesOf a).take 0 = [] := rfl
  rw [e1, e2] at key
  rw [key]
  unfold uqOut
  simp only
  rw [nums_bytes, ext_right]

theorem ndf_all (a : ByteArray) (d : Nat) : ndf a d = false → d ≤ a.size → ∀ i : Nat, a.size - d ≤ i → i < a.size → bad (bt a (i : Int)) = false := by
  induction d with
  | zero => intro _ _ i h1 h2; omega
  | succ d ih =>
    intro h hd i h1 h2
    simp only [ndf, Bool.or_eq_false_iff] at h
    by_cases e : i = a.size - (d + 1)
    · have : ((i : Nat) : Int) = (a.size : Int) - (d + 1) := by omega
      rw [this]; exact h.1
    · exact ih h.2 (by omega) i (by omega) h2
theorem plain_byte (a : ByteArray) (h : ¬ needs a = true) (i : Nat) (hi : i < a.size) : 33 ≤ bt a (i : Int) ∧ bt a (i : Int) ≤ 126 ∧ bt a (i : Int) ≠ 34 := by
  have h1 : ndf a a.size = false := by
    unfold needs at h
    simp only [Bool.or_eq_true, not_or, Bool.not_eq_true] at h
    exact h.1
  have := ndf_all a a.size h1 (Nat.le_refl _) i (by omega) hi
  unfold bad at this
  simp only [Bool.or_eq_false_iff, decide_eq_false_iff_not, beq_eq_false_iff_ne] at this
  omega
theorem plain_size (a : ByteArray) (h : ¬ needs a = true) : 1 ≤ a.size := by
  unfold needs at h
  simp only [Bool.or_eq_true, not_or, beq_iff_eq] at h
  have : ¬ a.size = 0 := fun e => h.2 ((toList_nil a).mpr e)
  omega

theorem ua_plain (a r : ByteArray) (h : ¬ needs a = true) (hr : r.size = 0 ∨ bt r 0 = 9 ∨ bt r 0 = 10) (d : Nat) : ∀ i : Nat, i ≤ a.size → (a ++ r).size < i + d → ua (a ++ r) d i = a.size := by
  have hsz : (a ++ r).size = a.size + r.size := ByteArray.size_append
  induction d with
  | zero => intro i hi hd; omega
  | succ d ih =>
    intro i hi hd
    simp only [ua]
    by_cases e : i = a.size
    · subst e
      by_cases hr0 : r.size = 0
      · rw [if_neg (by omega)]
      · have hb : bt (a ++ r) ((a.size : Nat) : Int) = bt r 0 := bt_append_right a r 0
        rw [if_pos (by omega), hb]
        by_cases c9 : bt r 0 = 9
        · rw [if_pos c9]
        · rw [if_neg c9, if_pos (by omega)]
    · have hb := bt_append_left a r i (by omega)
      have hp := plain_byte a h i (by omega)
      rw [if_pos (by omega), hb, if_neg (by omega), if_neg (by omega)]
      exact ih (i + 1) (by omega) (by omega)
theorem unq_plain (a r : ByteArray) (h : ¬ needs a = true) (hr : r.size = 0 ∨ bt r 0 = 9 ∨ bt r 0 = 10) : unq (a ++ r) = (a, r, none) := by
  have h1 := plain_size a h
  have hsz : (a ++ r).size = a.size + r.size := ByteArray.size_append
  have h0 : bt (a ++ r) 0 = bt a 0 := bt_append_left a r 0 (by omega)
  have hp : bt a 0 ≠ 34 := (plain_byte a h 0 (by omega)).2.2
  unfold unq
  rw [if_neg (by simp [h0, hp]), ua_plain a r h hr _ 0 (by omega) (by omega), ext_left, ext_right]
theorem unq_shown (a : ByteArray) : unq (shown a) = (a, ⟨#[]⟩, none) := by
  unfold shown
  by_cases h : needs a = true
  · rw [if_pos h]
    have := unq_quoted a ⟨#[]⟩
    rw [app_nil] at this
    exact this
  · rw [if_neg h]
    have := unq_plain a ⟨#[]⟩ h (Or.inl rfl)
    rw [app_nil] at this
    exact this

theorem shown_size (a : ByteArray) : (shown a).size ≤ 4 * a.size + 2 := by
  unfold shown
  split
  · have := quotedFrom_length a a.size
    rw [quoted_size]; omega
  · omega
theorem quoted_shown (a : ByteArray) (n : Nat) : ∀ x ∈ quotedFrom a n ++ [34], 32 ≤ x ∧ x ≤ 126 := by
  induction n with
  | zero => intro x hx; simp [quotedFrom] at hx; omega
  | succ n ih =>
    intro x hx
    simp only [quotedFrom, List.mem_append, List.mem_singleton] at hx
    have hr := bt_range a n
    rcases hx with (hx | hx) | hx
    · exact ih x (by simp [hx])
    · exact escShown_at _ hr.1 hr.2 x hx
    · omega
theorem shown_byte (a : ByteArray) (i : Nat) (h : i < (shown a).size) : 32 ≤ bt (shown a) (i : Int) ∧ bt (shown a) (i : Int) ≤ 126 := by
  unfold shown at h ⊢
  by_cases c : needs a = true
  · rw [if_pos c] at h ⊢
    have hb := quoted_at a ⟨#[]⟩ i h
    rw [app_nil] at hb
    rw [hb]
    rw [quoted_size] at h
    have hm : i < (quotedFrom a a.size ++ [34]).length := by rw [List.length_append]; exact h
    rw [List.getD_eq_getElem?_getD, List.getElem?_eq_getElem hm]
    exact quoted_shown a a.size _ (List.getElem_mem hm)
  · rw [if_neg c] at h ⊢
    have := plain_byte a c i h
    omega

/-! ### the laws -/
theorem back_j2 (a q x : ByteArray) (hn : (q ++ x).size ≤ 4000000000) (h : unq (q ++ x) = (a, x, none)) {k : Nat} (hk : (q ++ x).size + 60 ≤ k) : selvagelaw02_QuoteBack.j2 (k + 1) a x q false = some true := by
  have hsz : (q ++ x).size = q.size + x.size := ByteArray.size_append
  simp only [selvagelaw02_QuoteBack.j2]
  rw [if_neg (by simp), if_pos (by omega), unquote_at _ hn (by omega), h]
  simp [works_at (k := k) (by omega)]
theorem back_j2t (a q x : ByteArray) (hn : (q ++ ((⟨#[9]⟩ : ByteArray) ++ x)).size ≤ 4000000000) (h : unq (q ++ ((⟨#[9]⟩ : ByteArray) ++ x)) = (a, (⟨#[9]⟩ : ByteArray) ++ x, none)) {k : Nat} (hk : (q ++ ((⟨#[9]⟩ : ByteArray) ++ x)).size + 60 ≤ k) : selvagelaw02_QuoteBack.j2 (k + 1) a x q true = some true := by
  have hsz : (q ++ ((⟨#[9]⟩ : ByteArray) ++ x)).size = q.size + ((⟨#[9]⟩ : ByteArray) ++ x).size := ByteArray.size_append
  have hsy : ((⟨#[9]⟩ : ByteArray) ++ x).size = 1 + x.size := ByteArray.size_append
  simp only [selvagelaw02_QuoteBack.j2]
  rw [if_pos trivial, if_pos (by omega), if_pos (by omega), unquote_at _ hn (by omega), h]
  simp [works_at (k := k) (by omega)]
theorem back_l0 (a x q : ByteArray) (hn : q.size ≤ 4000000000) (hb : ∀ i : Nat, i < q.size → 32 ≤ bt q (i : Int) ∧ bt q (i : Int) ≤ 126) (hq : 1 ≤ q.size) (d : Nat) : ∀ (k i : Nat), i + d = q.size →
    selvagelaw02_QuoteBack.l0 (k + d + 1) a x q (i : Int) = selvagelaw02_QuoteBack.j1 k a x q (bt q 0 == 34) := by
  induction d with
  | zero =>
    intro k i hi
    simp only [selvagelaw02_QuoteBack.l0]
    have : ¬ q.toList = ([] : List UInt8) := fun e => by have := (toList_nil q).mp e; omega
    rw [if_neg (by omega), if_neg this, if_pos (by omega)]
  | succ d ih =>
    intro k i hi
    have hb' := hb i (by omega)
    have w1 : wrap64 ((i : Int) + 1) = ((i + 1 : Nat) : Int) := w_add i 1 (by omega)
    rw [show k + (d + 1) + 1 = (k + d + 1) + 1 by omega]
    simp only [selvagelaw02_QuoteBack.l0, w1]
    rw [if_pos (by omega), if_pos (by omega), if_neg (by omega), if_neg (by omega)]
    exact ih k (i + 1) (by omega)
theorem shown_inj (a b : ByteArray) (h : shown a = shown b) : a = b := by
  have h1 := unq_shown a
  rw [h, unq_shown b] at h1
  exact (Prod.mk.inj h1).1.symm
theorem QuoteApart : ∀ (a0 a1 : ByteArray), (a0.size + 1) + (a1.size + 1) ≤ 1048576 → ∃ k, selvagelaw02_QuoteApart.f k a0 a1 = some true := by
  intro a0 a1 hn
  refine ⟨a0.size + a1.size + 60, ?_⟩
  unfold selvagelaw02_QuoteApart.f
  rw [quote_at a0 (by omega) (by omega), quote_at a1 (by omega) (by omega), works_at (by omega)]
  simp only [Option.bind_some]
  rw [if_pos]
  by_cases e : a0 = a1
  · subst e; simp
  · have e1 : (a0.toList == a1.toList) = false := beq_eq_false_iff_ne.mpr fun h => e ((toList_eq_iff _ _).mp h)
    have e2 : ((shown a0).toList == (shown a1).toList) = false := beq_eq_false_iff_ne.mpr fun h => e (shown_inj _ _ ((toList_eq_iff _ _).mp h))
    rw [e1, e2]; rfl

theorem uq_bounds (s : ByteArray) (d : Nat) : ∀ (i : Nat) (acc l : List Int) (j : Nat), i ≤ s.size → acc.length ≤ i → uq s d i acc = some (l, j) → j ≤ s.size ∧ l.length ≤ j := by
  induction d with
  | zero => intro i acc l j _ _ h; simp [uq] at h
  | succ d ih =>
    intro i acc l j hi ha h
    simp only [uq] at h
    by_cases c : i < s.size
    · rw [if_pos c] at h
      by_cases c34 : bt s (i : Int) = 34
      · rw [if_pos c34] at h
        simp only [Option.some.injEq, Prod.mk.injEq] at h
        obtain ⟨rfl, rfl⟩ := h
        omega
      · rw [if_neg c34] at h
        by_cases c10 : bt s (i : Int) = 10
        · rw [if_pos c10] at h; cases h
        · rw [if_neg c10] at h
          by_cases c92 : bt s (i : Int) = 92
          · rw [if_pos c92] at h
            by_cases h2 : i + 2 ≤ s.size
            · rw [if_pos h2] at h
              by_cases m : (meantV (bt s ((i + 1 : Nat) : Int))).2 = true
              · rw [if_pos m] at h
                exact ih (i + 2) _ l j h2 (by simp; omega) h
              · rw [if_neg m] at h
                by_cases o : octAt s i
                · rw [if_pos o] at h
                  exact ih (i + 4) _ l j o.1 (by simp; omega) h
                · rw [if_neg o] at h; cases h
            · rw [if_neg h2] at h; cases h
          · rw [if_neg c92] at h
            exact ih (i + 1) _ l j (by omega) (by simp; omega) h
    · rw [if_neg c] at h; cases h

theorem unq_facts (s : ByteArray) : (∃ j, j ≤ s.size ∧ (unq s).1.size ≤ j ∧ (unq s).2.1 = s.extract j s.size ∧ (unq s).2.2 = none) ∨ unq s = (⟨#[]⟩, ⟨#[]⟩, some 20) := by
  unfold unq
  by_cases hq : (decide (1 ≤ s.size) && (bt s 0 == 34)) = true
  · rw [if_pos hq]
    have h1 : 1 ≤ s.size := by simp at hq; exact hq.1
    cases hu : uq s s.size 1 [] with
    | none => exact Or.inr rfl
    | some x =>
      obtain ⟨l, j⟩ := x
      have := uq_bounds s s.size 1 [] l j h1 (by simp) hu
      exact Or.inl ⟨j, this.1, by simp only [uqOut]; rw [strOfNums_size]; exact this.2, rfl, rfl⟩
  · rw [if_neg hq]
    have hb := ua_le s (s.size + 1) 0 (by omega)
    exact Or.inl ⟨ua s (s.size + 1) 0, hb.2, by simp only; rw [ByteArray.size_extract]; omega, rfl, rfl⟩

theorem none_isNone : (none : Option Int).isNone = true := rfl
theorem nil_list : (⟨#[]⟩ : ByteArray).toList = ([] : List UInt8) := by rw [Lib.toList_data]
theorem QuoteRests : ∀ (a0 : ByteArray), (a0.size + 1) ≤ 1048576 → ∃ k, selvagelaw02_QuoteRests.f k a0 = some true := by
  intro a0 hn
  refine ⟨(5 * a0.size + 80) + 1, ?_⟩
  unfold selvagelaw02_QuoteRests.f
  rw [unquote_at a0 (by omega) (by omega)]
  simp only [Option.bind_some]
  rcases unq_facts a0 with ⟨j, hj, hl, hr, he⟩ | h
  · obtain ⟨n, hnn⟩ : ∃ n, (unq a0).1 = n := ⟨_, rfl⟩
    rw [he, if_pos none_isNone, hr, hnn]
    rw [hnn] at hl
    have hsz := size_cut a0 j
    have hw : wrap64 ((a0.size : Int) - ((a0.extract j a0.size).size : Int)) = ((j : Nat) : Int) := by
      rw [hsz, w64' (by omega) (by omega)]; omega
    have hss := shown_size n
    rw [if_neg (by omega), hw, if_pos (by omega), if_pos (by omega), Int.toNat_natCast, if_pos rfl]
    have hd : decide ((n.size : Int) > ((j : Nat) : Int)) = false := decide_eq_false (by omega)
    rw [hd]
    simp only [selvagelaw02_QuoteRests.j0]
    rw [if_neg (by simp), quote_at n (by omega) (by omega)]
    simp only [Option.bind_some]
    rw [unquote_at (shown n) (by omega) (by omega), unq_shown]
    simp only [Option.bind_some]
    rw [if_pos trivial, if_pos nil_list, if_pos none_isNone, works_at (by omega)]
    rfl
  · rw [h, works_at (by omega)]
    dsimp only
    rw [if_neg (by simp), if_pos nil_list, if_pos nil_list]
    rfl
end Go.Proofs.YtljdeadakamhpaaDoor.Pure
