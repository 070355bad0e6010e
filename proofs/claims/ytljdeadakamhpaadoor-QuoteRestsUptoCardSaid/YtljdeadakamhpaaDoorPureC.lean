/-
  quote, in plain Lean: Unquote of the program and of the reference agree on every text (QuoteReads).
-/
import Derived.Test.YtljdeadakamhpaaDoorPureB
import Derived.Lib.IndexAny
namespace Go.Proofs.YtljdeadakamhpaaDoor.Pure
open Go.RowKit Go.Proofs.YtljdeadakamhpaaDoor.Pp Go.Proofs.YtljdeadakamhpaaDoor.Ext Go.Proofs.YtljdeadakamhpaaDoor.P1 Go.Proofs.YtljdeadakamhpaaDoorW.PrintWords Go.Proofs.YtljdeadakamhpaaDoorW.PrintLast

/-- is it an octal escape that stands at i (the digits at i + 1)? -/
abbrev octAt (s : ByteArray) (i : Nat) : Prop :=
  i + 4 ≤ s.size ∧ octD (bt s ((i + 1 : Nat) : Int)) = true ∧ bt s ((i + 1 : Nat) : Int) ≤ 51 ∧ octD (bt s ((i + 2 : Nat) : Int)) = true ∧ octD (bt s ((i + 3 : Nat) : Int)) = true
def octOf (s : ByteArray) (i : Nat) : Int := octV (bt s ((i + 1 : Nat) : Int)) (bt s ((i + 2 : Nat) : Int)) (bt s ((i + 3 : Nat) : Int)) % 256

theorem octal_ext (s : ByteArray) (i : Nat) {k : Nat} (hk : 6 ≤ k) :
    quote_octal.f k (s.extract (i + 1) s.size) = some (if octAt s i then (octOf s i, true) else (0, false)) := by
  rw [octal_at _ hk, size_cut]
  unfold octAt octOf
  by_cases h : i + 4 ≤ s.size
  · have e0 : bt (s.extract (i + 1) s.size) 0 = bt s ((i + 1 : Nat) : Int) := bt_extract s (i + 1) s.size 0 (by omega)
    have e1 : bt (s.extract (i + 1) s.size) 1 = bt s ((i + 2 : Nat) : Int) := bt_extract s (i + 1) s.size 1 (by omega)
    have e2 : bt (s.extract (i + 1) s.size) 2 = bt s ((i + 3 : Nat) : Int) := bt_extract s (i + 1) s.size 2 (by omega)
    rw [e0, e1, e2]
    have : s.size - (i + 1) ≥ 3 := by omega
    simp only [this, h, true_and]
  · rw [if_neg (by omega), if_neg (fun h2 => h h2.1)]

theorem read_ext (s : ByteArray) (i : Nat) (h92 : bt s (i : Int) = 92) (hi : i < s.size) {k : Nat} (hk : 14 ≤ k) :
    selvageref02_read.f k (s.extract i s.size) = some (if i + 2 ≤ s.size then (if (meantV (bt s ((i + 1 : Nat) : Int))).2 = true then ((meantV (bt s ((i + 1 : Nat) : Int))).1, 2) else if octAt s i then (octOf s i, 4) else (0, 0)) else (0, 0)) := by
  rw [read_at _ hk, size_cut]
  have e0 : bt (s.extract i s.size) 0 = bt s ((i : Nat) : Int) := bt_extract s i s.size 0 (by omega)
  rw [e0]
  by_cases h2 : i + 2 ≤ s.size
  · have e1 : bt (s.extract i s.size) 1 = bt s ((i + 1 : Nat) : Int) := bt_extract s i s.size 1 (by omega)
    rw [if_pos ⟨by omega, h92⟩, if_pos h2, e1]
    unfold escV octAt octOf
    congr 1
    split
    · rfl
    · by_cases h4 : i + 4 ≤ s.size
      · have e2 : bt (s.extract i s.size) 2 = bt s ((i + 2 : Nat) : Int) := bt_extract s i s.size 2 (by omega)
        have e3 : bt (s.extract i s.size) 3 = bt s ((i + 3 : Nat) : Int) := bt_extract s i s.size 3 (by omega)
        rw [e2, e3]
        have : s.size - i ≥ 4 := by omega
        simp only [this, h4, decide_true, true_and]
      · have : decide (s.size - i ≥ 4) = false := decide_eq_false (by omega)
        rw [this, if_neg (by simp), if_neg (fun h => h4 h.1)]
  · rw [if_neg (by omega), if_neg h2]

/-- what stands in quotes, from i on: the bytes and where the text goes on -/
def uq (s : ByteArray) : Nat → Nat → List Int → Option (List Int × Nat)
  | 0, _, _ => none
  | d + 1, i, acc =>
    if i < s.size then
      if bt s (i : Int) = 34 then some (acc, i + 1)
      else if bt s (i : Int) = 10 then none
      else if bt s (i : Int) = 92 then
        if i + 2 ≤ s.size then
          if (meantV (bt s ((i + 1 : Nat) : Int))).2 = true then uq s d (i + 2) (acc ++ [(meantV (bt s ((i + 1 : Nat) : Int))).1])
          else if octAt s i then uq s d (i + 4) (acc ++ [octOf s i]) else none
        else none
      else uq s d (i + 1) (acc ++ [bt s (i : Int)])
    else none

def uqOut (s : ByteArray) : Option (List Int × Nat) → ByteArray × ByteArray × Option Int
  | none => (⟨#[]⟩, ⟨#[]⟩, some 20)
  | some (l, j) => (strOfNums l, s.extract j s.size, none)
def errNum : Option Int → Int
  | none => 0
  | some n => n
def uqOutR (s : ByteArray) (r : Option (List Int × Nat)) : ByteArray × ByteArray × Int := ((uqOut s r).1, (uqOut s r).2.1, errNum (uqOut s r).2.2)

theorem w_add (i n : Nat) (h : i + n ≤ 9223372036854775807) : wrap64 ((i : Int) + (n : Int)) = ((i + n : Nat) : Int) := by
  rw [w64' (by omega) (by omega)]; omega
theorem prog_loop (s : ByteArray) (hn : s.size ≤ 140737488351232) (d : Nat) : ∀ (k i : Nat) (acc : List Int), s.size < i + d → i ≤ s.size → acc.length ≤ i → d + 12 ≤ k →
    quote_Unquote.l0 k s acc (i : Int) = some (uqOut s (uq s d i acc)) := by
  induction d with
  | zero => intro k i acc hd hi _ _; omega
  | succ d ih =>
    intro k i acc hd hi hacc hk
    obtain ⟨k, rfl⟩ : ∃ m, k = m + 1 := ⟨k - 1, by omega⟩
    have w1 : wrap64 ((i : Int) + 1) = ((i + 1 : Nat) : Int) := w_add i 1 (by omega)
    have w2 : wrap64 ((i : Int) + 2) = ((i + 2 : Nat) : Int) := w_add i 2 (by omega)
    have w4 : wrap64 ((i : Int) + 4) = ((i + 4 : Nat) : Int) := w_add i 4 (by omega)
    simp only [quote_Unquote.l0, uq, w1, w2, w4, Int.toNat_natCast]
    by_cases h : i < s.size
    · rw [if_pos (by omega), if_pos (by omega), if_pos h]
      by_cases c34 : bt s (i : Int) = 34
      · rw [if_pos c34, if_pos c34, if_pos (by omega), if_pos (by omega)]; rfl
      · rw [if_neg c34, if_neg c34]
        by_cases c10 : bt s (i : Int) = 10
        · rw [if_pos c10, if_pos c10]; rfl
        · rw [if_neg c10, if_neg c10]
          by_cases c92 : bt s (i : Int) = 92
          · rw [if_pos c92, if_pos c92, if_pos (by omega), if_pos (by omega), size_cut]
            by_cases h2 : i + 2 ≤ s.size
            · have hne : ¬ (s.extract (i + 1) s.size).toList = ([] : List UInt8) := by rw [toList_nil, size_cut]; omega
              have e0 : bt (s.extract (i + 1) s.size) 0 = bt s ((i + 1 : Nat) : Int) := bt_extract s (i + 1) s.size 0 (by omega)
              have r := bt_range s ((i + 1 : Nat) : Int)
              rw [if_neg hne, if_pos (by omega), if_pos h2, e0, meant_at _ r.1 r.2 (by omega)]
              simp only [Option.bind_some]
              by_cases m : (meantV (bt s ((i + 1 : Nat) : Int))).2 = true
              · rw [if_pos m, if_pos m, if_pos (by omega)]
                exact ih k (i + 2) _ (by omega) h2 (by simp; omega) (by omega)
              · rw [if_neg m, if_neg m, octal_ext s i (by omega)]
                simp only [Option.bind_some]
                by_cases o : octAt s i
                · rw [if_pos o, if_pos o, if_pos rfl, if_pos (by omega)]
                  exact ih k (i + 4) _ (by omega) o.1 (by simp; omega) (by omega)
                · rw [if_neg o, if_neg o, if_neg (by simp)]; rfl
            · have hne : (s.extract (i + 1) s.size).toList = ([] : List UInt8) := by rw [toList_nil, size_cut]; omega
              rw [if_pos hne, if_neg h2]; rfl
          · rw [if_neg c92, if_neg c92, if_pos (by omega)]
            exact ih k (i + 1) _ (by omega) (by omega) (by simp; omega) (by omega)
    · rw [if_neg (by omega), if_neg h]; rfl

theorem ref_loop (s : ByteArray) (hn : s.size ≤ 140737488351232) (d : Nat) : ∀ (k i : Nat) (acc : List Int), s.size < i + d → i ≤ s.size → acc.length ≤ i → 2 * d + 16 ≤ k →
    selvageref02_Unquote.l1 k s acc (i : Int) = some (uqOutR s (uq s d i acc)) := by
  induction d with
  | zero => intro k i acc hd hi _ _; omega
  | succ d ih =>
    intro k i acc hd hi hacc hk
    obtain ⟨k, rfl⟩ : ∃ m, k = m + 2 := ⟨k - 2, by omega⟩
    have w1 : wrap64 ((i : Int) + 1) = ((i + 1 : Nat) : Int) := w_add i 1 (by omega)
    have w2 : wrap64 ((i : Int) + 2) = ((i + 2 : Nat) : Int) := w_add i 2 (by omega)
    have w4 : wrap64 ((i : Int) + 4) = ((i + 4 : Nat) : Int) := w_add i 4 (by omega)
    simp only [selvageref02_Unquote.l1, selvageref02_Unquote.j3, uq, w1, Int.toNat_natCast]
    by_cases h : i < s.size
    · rw [if_pos (by omega), if_pos (by omega), if_pos h]
      by_cases c34 : bt s (i : Int) = 34
      · have c10 : ¬ bt s (i : Int) = 10 := by omega
        rw [if_pos c34, if_pos c34, if_neg (by simp), if_neg (by omega), if_pos (by omega), if_pos (by omega), if_neg c10, if_pos (by omega), if_pos (by omega)]; rfl
      · rw [if_neg c34, if_neg c34]
        by_cases c10 : bt s (i : Int) = 10
        · rw [if_neg (by simp [c10]), if_neg (by omega), if_pos (by omega), if_pos (by omega), if_pos c10, if_pos c10]; rfl
        · rw [if_pos (by simp [c10]), if_pos (by omega), if_pos (by omega), if_neg c10]
          by_cases c92 : bt s (i : Int) = 92
          · rw [if_pos c92, if_pos c92, if_pos (by omega), read_ext s i c92 h (by omega)]
            simp only [Option.bind_some]
            by_cases h2 : i + 2 ≤ s.size
            · rw [if_pos h2, if_pos h2]
              by_cases m : (meantV (bt s ((i + 1 : Nat) : Int))).2 = true
              · rw [if_pos m, if_pos m, if_neg (by simp), if_pos (by omega)]
                simp only [w2]
                exact ih k (i + 2) _ (by omega) h2 (by simp; omega) (by omega)
              · rw [if_neg m, if_neg m]
                by_cases o : octAt s i
                · rw [if_pos o, if_pos o, if_neg (by simp), if_pos (by omega)]
                  simp only [w4]
                  exact ih k (i + 4) _ (by omega) o.1 (by simp; omega) (by omega)
                · rw [if_neg o, if_neg o, if_pos rfl]; rfl
            · rw [if_neg h2, if_neg h2, if_pos rfl]; rfl
          · rw [if_neg c92, if_neg c92, if_pos (by omega)]
            exact ih k (i + 1) _ (by omega) (by omega) (by simp; omega) (by omega)
    · rw [if_neg (by omega), if_neg (by simp), if_pos (by omega), if_neg h]; rfl

/-! ### a text that begins without a quote -/
/-- where the first tabulator or newline stands -/
def ua (s : ByteArray) : Nat → Nat → Nat
  | 0, i => i
  | d + 1, i => if i < s.size then (if bt s (i : Int) = 9 then i else if bt s (i : Int) = 10 then i else ua s d (i + 1)) else i

theorem ref_plain (s : ByteArray) (hn : s.size ≤ 140737488351232) (d : Nat) : ∀ (k i : Nat), s.size < i + d → i ≤ s.size → d ≤ k →
    selvageref02_Unquote.l0 k s (i : Int) = some (s.extract 0 (ua s d i), s.extract (ua s d i) s.size, 0) := by
  induction d with
  | zero => intro k i hd hi _; omega
  | succ d ih =>
    intro k i hd hi hk
    obtain ⟨k, rfl⟩ : ∃ m, k = m + 1 := ⟨k - 1, by omega⟩
    have w1 : wrap64 ((i : Int) + 1) = ((i + 1 : Nat) : Int) := w_add i 1 (by omega)
    simp only [selvageref02_Unquote.l0, ua, w1, Int.toNat_natCast]
    by_cases h : i < s.size
    · rw [if_pos (by omega), if_pos (by omega), if_pos h]
      by_cases c9 : bt s (i : Int) = 9
      · rw [if_pos c9, if_pos c9, if_pos (by omega)]
      · rw [if_neg c9, if_neg c9]
        by_cases c10 : bt s (i : Int) = 10
        · rw [if_pos c10, if_pos c10, if_pos (by omega)]
        · rw [if_neg c10, if_neg c10]
          exact ih k (i + 1) (by omega) (by omega) (by omega)
    · rw [if_neg (by omega), if_pos (by omega), if_pos (by omega), if_neg h]

def tl : List UInt8 := [9, 10]
theorem tl_byte (s : ByteArray) (j : Nat) (x : UInt8) (hx : s.data.toList[j]? = some x) : tl.contains x = true ↔ (bt s (j : Int) = 9 ∨ bt s (j : Int) = 10) := by
  rw [bt_list, List.getD_eq_getElem?_getD, hx]
  simp only [tl, Option.getD_some, List.contains_cons, List.contains_nil, Bool.or_false, Bool.or_eq_true, beq_iff_eq]
  constructor
  · rintro (rfl | rfl)
    · exact Or.inl rfl
    · exact Or.inr rfl
  · rintro (h | h)
    · exact Or.inl (UInt8.toNat_inj.mp (by have : (9 : UInt8).toNat = 9 := rfl; omega))
    · exact Or.inr (UInt8.toNat_inj.mp (by have : (10 : UInt8).toNat = 10 := rfl; omega))
theorem any_at (s : ByteArray) (d : Nat) : ∀ i : Nat, s.size < i + d → i ≤ s.size → Lib.NoAny s.data.toList tl i →
    (if Lib.indexAny s.data.toList tl < 0 then (s.size : Int) else Lib.indexAny s.data.toList tl) = ((ua s d i : Nat) : Int) := by
  induction d with
  | zero => intro i hd hi _; omega
  | succ d ih =>
    intro i hd hi hno
    simp only [ua]
    by_cases h : i < s.size
    · rw [if_pos h]
      have hx : s.data.toList[i]? = some (s[i]'h) := Lib.data_getElem? s i h
      have key := tl_byte s i _ hx
      by_cases c : bt s (i : Int) = 9 ∨ bt s (i : Int) = 10
      · rw [Lib.indexAny_hit hno hx (key.mpr c), if_neg (by omega)]
        rcases c with c | c
        · rw [if_pos c]
        · have : ¬ bt s (i : Int) = 9 := by omega
          rw [if_neg this, if_pos c]
      · rw [if_neg (fun h => c (Or.inl h)), if_neg (fun h => c (Or.inr h))]
        refine ih (i + 1) (by omega) (by omega) (hno.succ hx ?_)
        cases hc : tl.contains (s[i]'h) with
        | false => rfl
        | true => exact absurd (key.mp hc) c
    · rw [if_neg h]
      obtain rfl : i = s.size := by omega
      rw [Lib.indexAny_none (by rw [data_length]; exact hno), if_pos (by omega)]

theorem prefix_at (s : ByteArray) : strings_HasPrefix.f s (⟨#[34]⟩ : ByteArray) = some (decide (1 ≤ s.size) && (bt s 0 == 34)) := by
  unfold strings_HasPrefix.f stringslite_HasPrefix.f
  have hsz : (⟨#[34]⟩ : ByteArray).size = 1 := rfl
  rw [hsz]
  by_cases h : s.size ≥ 1
  · rw [if_pos (by omega), if_pos (by omega), if_pos (by omega)]
    simp only [Option.bind_some]
    have ht : (1 : Int).toNat = 1 := rfl
    have e : ((s.extract 0 ((1 : Nat) : Int).toNat).toList == (⟨#[34]⟩ : ByteArray).toList) = (bt s 0 == 34) := by
      have hl : (⟨#[34]⟩ : ByteArray).toList = [34] := by rw [Lib.toList_data]
      rw [hl, Int.toNat_natCast, Lib.toList_data, Lib.extract_data]
      have hb : bt s 0 = ((s.data.toList.getD 0 0).toNat : Int) := bt_list s 0
      rw [hb]
      have hlen := data_length s
      cases hd : s.data.toList with
      | nil => rw [hd] at hlen; simp at hlen; omega
      | cons x xs =>
        simp only [List.drop_zero, List.getD_cons_zero]
        have : (x == 34) = ((x.toNat : Int) == 34) := by
          rw [Bool.eq_iff_iff, beq_iff_eq, beq_iff_eq]
          constructor
          · rintro rfl; rfl
          · intro h; exact UInt8.toNat_inj.mp (by have : (34 : UInt8).toNat = 34 := rfl; omega)
        simp [this]
    rw [e]
    simp [h]
  · rw [if_neg (by omega)]
    have : ¬ 1 ≤ s.size := by omega
    simp [this]

/-- what Unquote answers -/
def unq (s : ByteArray) : ByteArray × ByteArray × Option Int :=
  if (decide (1 ≤ s.size) && (bt s 0 == 34)) = true then uqOut s (uq s s.size 1 []) else (s.extract 0 (ua s (s.size + 1) 0), s.extract (ua s (s.size + 1) 0) s.size, none)

theorem ua_le (s : ByteArray) (d : Nat) : ∀ i : Nat, i ≤ s.size → i ≤ ua s d i ∧ ua s d i ≤ s.size := by
  induction d with
  | zero => intro i hi; exact ⟨Nat.le_refl _, hi⟩
  | succ d ih =>
    intro i hi
    simp only [ua]
    split
    · split
      · exact ⟨Nat.le_refl _, hi⟩
      · split
        · exact ⟨Nat.le_refl _, hi⟩
        · have := ih (i + 1) (by omega)
          omega
    · exact ⟨Nat.le_refl _, hi⟩

theorem unquote_at (s : ByteArray) (hn : s.size ≤ 4000000000) {k : Nat} (hk : s.size + 12 ≤ k) : quote_Unquote.f k s = some (unq s) := by
  unfold quote_Unquote.f unq
  rw [prefix_at]
  simp only [Option.bind_some]
  by_cases hq : (decide (1 ≤ s.size) && (bt s 0 == 34)) = true
  · rw [if_pos hq, if_pos hq]
    have h1 : 1 ≤ s.size := by simp at hq; exact hq.1
    exact prog_loop s (by omega) s.size k 1 [] (by omega) h1 (by simp) (by omega)
  · rw [if_neg hq, if_neg hq]
    have hx : strings_IndexAny.f s (⟨#[9, 10]⟩ : ByteArray) = some (Lib.indexAny s.data.toList tl) := by
      unfold strings_IndexAny.f
      have hsz : (⟨#[9, 10]⟩ : ByteArray).size = 2 := rfl
      rw [hsz, if_pos]
      · rfl
      · refine ⟨by omega, ?_⟩
        decide
    rw [hx]
    simp only [Option.bind_some]
    have key := any_at s (s.size + 1) 0 (by omega) (by omega) (Lib.NoAny.zero _ _)
    have hb := ua_le s (s.size + 1) 0 (by omega)
    generalize ua s (s.size + 1) 0 = u at *
    generalize Lib.indexAny s.data.toList tl = x at *
    by_cases hx0 : x < 0
    · rw [if_pos hx0] at key
      rw [if_pos hx0, if_pos (by omega), if_pos (by omega)]
      obtain rfl : s.size = u := by omega
      rw [Int.toNat_natCast]
    · rw [if_neg hx0] at key
      rw [if_neg hx0, if_pos (by omega), if_pos (by omega)]
      subst key
      rw [Int.toNat_natCast]

theorem refunquote_at (s : ByteArray) (hn : s.size ≤ 4000000000) {k : Nat} (hk : 2 * s.size + 17 ≤ k) : selvageref02_Unquote.f k s = some ((unq s).1, (unq s).2.1, errNum (unq s).2.2) := by
  obtain ⟨k, rfl⟩ : ∃ m, k = m + 1 := ⟨k - 1, by omega⟩
  have jt : selvageref02_Unquote.j0 (k + 1) s [] true = selvageref02_Unquote.l0 k s 0 := by simp [selvageref02_Unquote.j0]
  have jf : selvageref02_Unquote.j0 (k + 1) s [] false = selvageref02_Unquote.l1 k s [] 1 := by simp [selvageref02_Unquote.j0]
  unfold selvageref02_Unquote.f unq
  by_cases h0 : s.toList = ([] : List UInt8)
  · rw [if_pos h0, jt]
    have : s.size = 0 := (toList_nil s).mp h0
    have e : ¬ (decide (1 ≤ s.size) && (bt s 0 == 34)) = true := by simp [this]
    rw [if_neg e]
    exact ref_plain s (by omega) (s.size + 1) k 0 (by omega) (by omega) (by omega)
  · have h1 : 1 ≤ s.size := by
      have : ¬ s.size = 0 := fun e => h0 ((toList_nil s).mpr e)
      omega
    rw [if_neg h0, if_pos (by omega)]
    by_cases hq : bt s 0 = 34
    · have e : (decide (1 ≤ s.size) && (bt s 0 == 34)) = true := by simp [h1, hq]
      have e2 : (bt s 0 != 34) = false := by simp [hq]
      rw [e2, jf, if_pos e]
      exact ref_loop s (by omega) s.size k 1 [] (by omega) h1 (by simp) (by omega)
    · have e : ¬ (decide (1 ≤ s.size) && (bt s 0 == 34)) = true := by simp [hq]
      have e2 : (bt s 0 != 34) = true := by simp [hq]
      rw [e2, jt, if_neg e]
      exact ref_plain s (by omega) (s.size + 1) k 0 (by omega) (by omega) (by omega)

theorem QuoteReads : ∀ (a0 : ByteArray), (a0.size + 1) ≤ 1048576 → ∃ k, selvagelaw02_QuoteReads.f k a0 = some true := by
  intro a0 hn
  refine ⟨2 * a0.size + 60, ?_⟩
  unfold selvagelaw02_QuoteReads.f
  rw [unquote_at a0 (by omega) (by omega), refunquote_at a0 (by omega) (by omega), works_at (by omega)]
  have e : ∀ o : Option Int, o.getD 0 = errNum o := fun o => by cases o <;> rfl
  simp [selvagelaw02_num.f, e]
end Go.Proofs.YtljdeadakamhpaaDoor.Pure
