/-
  journal, in plain Lean: what the program's step and Decode answer.
-/
import Derived.Test.YtfempodohmhhlaaDoorPureJ
namespace Go.Proofs.YtfempodohmhhlaaDoor.Pure
open Go.RowKit Go.Proofs.YtfempodohmhhlaaDoor.Pp Go.Proofs.YtfempodohmhhlaaDoor.Ext Go.Proofs.YtfempodohmhhlaaDoorW.PrintWords Go.Proofs.YtfempodohmhhlaaDoorW.PrintLast
def hasP (x p : ByteArray) : Bool := decide (p.size ≤ x.size) && ((x.extract 0 p.size).toList == p.toList)
theorem hasPrefix_at (x p : ByteArray) : stringslite_HasPrefix.f x p = some (hasP x p) := by
  unfold stringslite_HasPrefix.f hasP
  by_cases h : p.size ≤ x.size
  · rw [if_pos (by omega), if_pos (by omega), if_pos (by omega), decide_eq_true h, Bool.true_and]
  · rw [if_neg (by omega), decide_eq_false h, Bool.false_and]
theorem cutPrefix_at (x p : ByteArray) : strings_CutPrefix.f x p = some (if hasP x p = true then (x.extract p.size x.size, true) else (x, false)) := by
  unfold strings_CutPrefix.f stringslite_CutPrefix.f
  rw [hasPrefix_at]
  simp only [Option.bind_some]
  by_cases h : hasP x p = true
  · rw [if_pos h, if_pos h]
    have h' := h
    unfold hasP at h'
    simp only [Bool.and_eq_true, decide_eq_true_eq] at h'
    rw [if_pos (by omega), if_pos (by omega)]; rfl
  · rw [if_neg h, if_neg h]; rfl
theorem behind_at (x p : ByteArray) : selvageref11_Behind.f x p = some (if hasP x p = true then (x.extract p.size x.size, true) else (⟨#[]⟩, false)) := by
  unfold selvageref11_Behind.f hasP
  by_cases h : p.size ≤ x.size
  · rw [if_neg (by omega), if_pos (by omega), if_pos (by omega), decide_eq_true h, Bool.true_and]
    by_cases e : (x.extract 0 p.size).toList = p.toList
    · rw [if_pos e, if_pos (beq_iff_eq.mpr e)]
    · rw [if_neg e, if_neg (fun h => e (beq_iff_eq.mp h))]
  · rw [if_pos (by omega), decide_eq_false h, Bool.false_and]; rfl
theorem hasP_app (p r : ByteArray) : hasP (p ++ r) p = true := by
  unfold hasP
  rw [ext_left, ByteArray.size_append]
  simp
theorem cut_app (p r : ByteArray) : (p ++ r).extract p.size (p ++ r).size = r := ext_right p r
theorem hasP_byte {x p : ByteArray} (h : hasP x p = true) (j : Nat) (hj : j < p.size) : bt x (j : Int) = bt p (j : Int) := by
  unfold hasP at h
  simp only [Bool.and_eq_true, decide_eq_true_eq, beq_iff_eq] at h
  have e := (toList_eq_iff _ _).mp h.2
  have := bt_extract x 0 p.size j (by omega)
  rw [Nat.zero_add, e] at this
  exact this.symm
def pstepK (kind : Int) (rest : ByteArray) : Int × ByteArray × ByteArray × Bool :=
  if (unq rest).2.2.isNone = true then
    (if kind = 1 then
      (if hasP (unq rest).2.1 bTab = true then
        (kind, (unq rest).1, (unq ((unq rest).2.1.extract 1 (unq rest).2.1.size)).1, (unq ((unq rest).2.1.extract 1 (unq rest).2.1.size)).2.2.isNone && ((unq ((unq rest).2.1.extract 1 (unq rest).2.1.size)).2.1.toList == ([] : List UInt8)))
      else (kind, (unq rest).1, ⟨#[]⟩, false))
    else (kind, (unq rest).1, ⟨#[]⟩, ((unq rest).2.1.toList == ([] : List UInt8))))
  else (kind, (unq rest).1, ⟨#[]⟩, false)
def pstep (x : ByteArray) : Int × ByteArray × ByteArray × Bool :=
  if hasP x wRen = true then pstepK 1 (x.extract 7 x.size)
  else if hasP x wRem = true then pstepK 2 (x.extract 7 x.size)
  else if hasP x wPru = true then pstepK 3 (x.extract 6 x.size)
  else (0, ⟨#[]⟩, ⟨#[]⟩, false)
theorem cut_size (x : ByteArray) (n : Nat) : (x.extract n x.size).size ≤ x.size := by
  rw [size_cut]; omega
theorem unq_rest_size (s : ByteArray) : (unq s).2.1.size ≤ s.size := by
  rcases unq_facts s with ⟨j, hj, _, h, _⟩ | h
  · rw [h]; exact cut_size s j
  · rw [h]; exact Nat.zero_le _
theorem unq_name_size (s : ByteArray) : (unq s).1.size + (unq s).2.1.size ≤ s.size := by
  rcases unq_facts s with ⟨j, hj, h1, h, _⟩ | h
  · rw [h, size_cut]; omega
  · rw [h]; exact Nat.zero_le _
theorem step_in (x : ByteArray) (hn : x.size ≤ 4000000000) (k : Nat) (hk : x.size + 12 ≤ k) (kind : Int) (p : ByteArray) :
    ((quote_Unquote.f k (x.extract p.size x.size)).bind fun bt186 => (if bt186.2.2.isNone = true then (if kind = 1 then ((strings_CutPrefix.f bt186.2.1 (⟨#[9]⟩ : ByteArray)).bind fun bt190 => (if bt190.2 = true then ((quote_Unquote.f k bt190.1).bind fun bt192 => (if bt192.2.2.isNone = true then (some (kind, bt186.1, bt192.1, (bt192.2.1.toList == ([] : List UInt8)))) else (some (kind, bt186.1, bt192.1, false)))) else (some (kind, bt186.1, (⟨#[]⟩ : ByteArray), false)))) else (some (kind, bt186.1, (⟨#[]⟩ : ByteArray), (bt186.2.1.toList == ([] : List UInt8))))) else (some (kind, bt186.1, (⟨#[]⟩ : ByteArray), false)))) = some (pstepK kind (x.extract p.size x.size)) := by
  have hc := cut_size x p.size
  have hr := unq_rest_size (x.extract p.size x.size)
  rw [unquote_at _ (by omega) (by omega)]
  simp only [Option.bind_some]
  unfold pstepK
  by_cases h : (unq (x.extract p.size x.size)).2.2.isNone = true
  · rw [if_pos h, if_pos h]
    by_cases h1 : kind = 1
    · rw [if_pos h1, if_pos h1, cutPrefix_at]
      simp only [Option.bind_some]
      by_cases h2 : hasP (unq (x.extract p.size x.size)).2.1 bTab = true
      · have h2' : hasP (unq (x.extract p.size x.size)).2.1 (⟨#[9]⟩ : ByteArray) = true := h2
        have hc2 := cut_size (unq (x.extract p.size x.size)).2.1 1
        rw [if_pos h2', if_pos h2]
        simp only [if_true]
        rw [show (⟨#[9]⟩ : ByteArray).size = 1 from rfl, unquote_at _ (by omega) (by omega)]
        simp only [Option.bind_some]
        by_cases h3 : (unq ((unq (x.extract p.size x.size)).2.1.extract 1 (unq (x.extract p.size x.size)).2.1.size)).2.2.isNone = true
        · rw [if_pos h3, h3, Bool.true_and]
        · rw [if_neg h3]
          simp only [Bool.not_eq_true] at h3
          rw [h3, Bool.false_and]
      · have h2' : ¬ hasP (unq (x.extract p.size x.size)).2.1 (⟨#[9]⟩ : ByteArray) = true := h2
        rw [if_neg h2', if_neg h2]
        simp
    · rw [if_neg h1, if_neg h1]
  · rw [if_neg h, if_neg h]
theorem step_at (x : ByteArray) (hn : x.size ≤ 4000000000) {k : Nat} (hk : x.size + 17 ≤ k) : journal_step.f k x = some (pstep x) := by
  obtain ⟨k, rfl⟩ : ∃ m, k = m + 4 := ⟨k - 4, by omega⟩
  unfold journal_step.f pstep
  have e1 : journal_word.f (rd [1, 2, 3] 0) = some wRen := rfl
  have e2 : journal_word.f (rd [1, 2, 3] 1) = some wRem := rfl
  have e3 : journal_word.f (rd [1, 2, 3] 2) = some wPru := rfl
  have r1 : rd [1, 2, 3] 0 = 1 := rfl
  have r2 : rd [1, 2, 3] 1 = 2 := rfl
  have r3 : rd [1, 2, 3] 2 = 3 := rfl
  have w1 : wrap64 (0 + 1) = 1 := by unfold wrap64; decide
  have w2 : wrap64 (1 + 1) = 2 := by unfold wrap64; decide
  have w3 : wrap64 (2 + 1) = 3 := by unfold wrap64; decide
  simp only [journal_step.l0, w1]
  rw [if_pos (by decide), if_pos (by decide), e1, r1]
  simp only [Option.bind_some]
  rw [cutPrefix_at]
  simp only [Option.bind_some]
  by_cases h1 : hasP x wRen = true
  · rw [if_pos h1, if_pos h1]
    simp only [if_true]
    exact step_in x hn (k + 3) (by omega) 1 wRen
  · rw [if_neg h1, if_neg h1]
    simp only [Bool.false_eq_true, if_false, w2]
    rw [if_pos (by decide), if_pos (by decide), e2, r2]
    simp only [Option.bind_some]
    rw [cutPrefix_at]
    simp only [Option.bind_some]
    by_cases h2 : hasP x wRem = true
    · rw [if_pos h2, if_pos h2]
      simp only [if_true]
      exact step_in x hn (k + 2) (by omega) 2 wRem
    · rw [if_neg h2, if_neg h2]
      simp only [Bool.false_eq_true, if_false, w3]
      rw [if_pos (by decide), if_pos (by decide), e3, r3]
      simp only [Option.bind_some]
      rw [cutPrefix_at]
      simp only [Option.bind_some]
      by_cases h3 : hasP x wPru = true
      · rw [if_pos h3, if_pos h3]
        simp only [if_true]
        exact step_in x hn (k + 1) (by omega) 3 wPru
      · rw [if_neg h3, if_neg h3]
        simp
theorem pstepK_size (kind : Int) (x : ByteArray) : (pstepK kind x).2.1.size + (pstepK kind x).2.2.1.size ≤ x.size := by
  have h1 := unq_name_size x
  have e0 : (⟨#[]⟩ : ByteArray).size = 0 := rfl
  unfold pstepK
  split
  · split
    · split
      · have h2 := unq_name_size ((unq x).2.1.extract 1 (unq x).2.1.size)
        have h3 := cut_size (unq x).2.1 1
        simp only
        omega
      · simp only [e0]; omega
    · simp only [e0]; omega
  · simp only [e0]; omega
theorem pstep_size (x : ByteArray) : (pstep x).2.1.size + (pstep x).2.2.1.size ≤ x.size := by
  have e0 : (⟨#[]⟩ : ByteArray).size = 0 := rfl
  unfold pstep
  have h7 := cut_size x 7
  have h6 := cut_size x 6
  split
  · have := pstepK_size 1 (x.extract 7 x.size); omega
  · split
    · have := pstepK_size 2 (x.extract 7 x.size); omega
    · split
      · have := pstepK_size 3 (x.extract 6 x.size); omega
      · simp only [e0]; omega
theorem unq_shown_r (a r : ByteArray) (hr : r.size = 0 ∨ bt r 0 = 9 ∨ bt r 0 = 10) : unq (shown a ++ r) = (a, r, none) := by
  unfold shown
  by_cases h : needs a = true
  · rw [if_pos h]; exact unq_quoted a r
  · rw [if_neg h]; exact unq_plain a r h hr
theorem stepOk_kind {s : S32} (h : stepOk s = true) : s.f0 = 1 ∨ ((s.f0 = 2 ∨ s.f0 = 3) ∧ s.f2 = ⟨#[]⟩) := by
  unfold stepOk at h
  by_cases h1 : s.f0 = 1
  · exact .inl h1
  · rw [if_neg h1] at h
    by_cases h2 : s.f0 = 2 ∨ s.f0 = 3
    · rw [if_pos h2] at h
      simp only [Bool.and_eq_true, beq_iff_eq] at h
      exact .inr ⟨h2, (toList_eq_iff _ _).mp (h.2.trans nil_list.symm)⟩
    · rw [if_neg h2] at h; cases h
theorem pstep_line (s : S32) (h : stepOk s = true) : pstep (lineB s) = (s.f0, s.f1, s.f2, true) := by
  have hb0 : (⟨#[]⟩ : ByteArray).size = 0 := rfl
  have ht0 : ((⟨#[]⟩ : ByteArray).toList == ([] : List UInt8)) = true := by rw [nil_list]; rfl
  unfold pstep lineB
  rcases stepOk_kind h with h1 | ⟨h1, h2⟩
  · rw [if_pos h1]
    have e : ((wRen ++ shown s.f1) ++ bTab) ++ shown s.f2 = wRen ++ (shown s.f1 ++ (bTab ++ shown s.f2)) := by simp only [app_assoc]
    rw [e, if_pos (hasP_app _ _), show (7 : Nat) = wRen.size from rfl, cut_app]
    unfold pstepK
    have hu : unq (shown s.f1 ++ (bTab ++ shown s.f2)) = (s.f1, bTab ++ shown s.f2, none) := unq_shown_r _ _ (.inr (.inl (by rw [show (0 : Int) = ((0 : Nat) : Int) from rfl, bt_append_left _ _ 0 (by decide)]; rfl)))
    rw [hu]
    simp only
    rw [if_pos none_isNone, if_pos trivial, if_pos (hasP_app _ _), show (1 : Nat) = bTab.size from rfl, cut_app, unq_shown, ht0, none_isNone, h1]
    rfl
  · have hf1 : ¬ s.f0 = 1 := by omega
    have hu : unq (shown s.f1) = (s.f1, ⟨#[]⟩, none) := unq_shown s.f1
    rw [if_neg hf1]
    rcases h1 with h1 | h1
    · rw [if_pos h1]
      have hn : ¬ hasP (wRem ++ shown s.f1) wRen = true := by
        intro hp
        have := hasP_byte hp 2 (by decide)
        rw [bt_append_left _ _ 2 (by decide)] at this
        exact absurd this (by decide)
      rw [if_neg hn, if_pos (hasP_app _ _), show (7 : Nat) = wRem.size from rfl, cut_app]
      unfold pstepK
      rw [hu]
      simp only
      rw [if_pos none_isNone, if_neg (by decide), ht0, h1, h2]
    · have hf2 : ¬ s.f0 = 2 := by omega
      rw [if_neg hf2]
      have hn1 : ¬ hasP (wPru ++ shown s.f1) wRen = true := by
        intro hp
        have := hasP_byte hp 0 (by decide)
        rw [bt_append_left _ _ 0 (by decide)] at this
        exact absurd this (by decide)
      have hn2 : ¬ hasP (wPru ++ shown s.f1) wRem = true := by
        intro hp
        have := hasP_byte hp 0 (by decide)
        rw [bt_append_left _ _ 0 (by decide)] at this
        exact absurd this (by decide)
      rw [if_neg hn1, if_neg hn2, if_pos (hasP_app _ _), show (6 : Nat) = wPru.size from rfl, cut_app]
      unfold pstepK
      rw [hu]
      simp only
      rw [if_pos none_isNone, if_neg (by decide), ht0, h1, h2]
def noNl (s : ByteArray) : Prop := ∀ x ∈ s.data.toList, x ≠ 10
theorem noNl_app {a b : ByteArray} (ha : noNl a) (hb : noNl b) : noNl (a ++ b) := by
  intro x hx
  rw [app_data] at hx
  rcases List.mem_append.mp hx with h | h
  · exact ha x h
  · exact hb x h
theorem noNl_shown (a : ByteArray) : noNl (shown a) := by
  intro x hx he
  obtain ⟨i, hi⟩ := List.getElem?_of_mem hx
  have hl : i < (shown a).size := by
    have := (List.getElem?_eq_some_iff.mp hi).1
    rwa [data_length] at this
  have hb := shown_byte a i hl
  rw [bt_list, List.getD_eq_getElem?_getD, hi, he] at hb
  have : ((10 : UInt8).toNat : Int) = 10 := rfl
  simp only [Option.getD_some] at hb
  omega
theorem noNl_line (s : S32) : noNl (lineB s) := by
  have h1 := noNl_shown s.f1
  have h2 := noNl_shown s.f2
  have a1 : noNl wRen := by unfold noNl; decide
  have a2 : noNl wRem := by unfold noNl; decide
  have a3 : noNl wPru := by unfold noNl; decide
  have a4 : noNl bTab := by unfold noNl; decide
  unfold lineB
  split
  · exact noNl_app (noNl_app (noNl_app a1 h1) a4) h2
  · split
    · exact noNl_app a2 h1
    · exact noNl_app a3 h1
theorem indexB_nl (t : ByteArray) : Lib.indexB t bNl = Lib.indexByte t.data.toList 10 := Lib.index_one t.data.toList 10
theorem indexByte_here : ∀ (l m : List UInt8), (∀ x ∈ l, x ≠ 10) → Lib.indexByte (l ++ 10 :: m) 10 = (l.length : Int) := by
  intro l m hl
  have hge := Lib.indexByte_ge (l ++ 10 :: m) 10
  have hat : (l ++ 10 :: m)[l.length]? = some 10 := by simp
  rcases (by omega : Lib.indexByte (l ++ 10 :: m) 10 < 0 ∨ 0 ≤ Lib.indexByte (l ++ 10 :: m) 10) with h | h
  · exact absurd hat (Lib.indexByte_none (by omega) l.length)
  · obtain ⟨o, ho⟩ : ∃ o : Nat, Lib.indexByte (l ++ 10 :: m) 10 = o := ⟨_, (Int.toNat_of_nonneg h).symm⟩
    obtain ⟨h1, h2⟩ := Lib.indexByte_some ho
    rcases Nat.lt_trichotomy o l.length with hc | hc | hc
    · rw [List.getElem?_append_left hc] at h1
      exact absurd rfl (hl 10 (List.mem_of_getElem? h1))
    · rw [ho, hc]
    · exact absurd hat (h2 l.length hc)
theorem cut_line (x r : ByteArray) (hx : noNl x) (hn : ((x ++ bNl) ++ r).size < 4294967281) : strings_Cut.f ((x ++ bNl) ++ r) (⟨#[10]⟩ : ByteArray) = some (x, r, true) := by
  have hi : Lib.indexB ((x ++ bNl) ++ r) bNl = (x.size : Int) := by
    rw [indexB_nl, app_data, app_data, show bNl.data.toList = [10] from rfl, List.append_assoc, List.singleton_append, indexByte_here _ _ hx, data_length]
  have hi' : Lib.indexB ((x ++ bNl) ++ r) (⟨#[10]⟩ : ByteArray) = (x.size : Int) := hi
  unfold strings_Cut.f
  rw [if_pos hn, hi', if_pos (by omega)]
  simp only [Int.toNat_natCast]
  have e1 : ((x ++ bNl) ++ r).extract 0 x.size = x := by rw [app_assoc]; exact ext_left x _
  have e2 : ((x ++ bNl) ++ r).extract (x.size + (⟨#[10]⟩ : ByteArray).size) ((x ++ bNl) ++ r).size = r := by
    rw [show x.size + (⟨#[10]⟩ : ByteArray).size = (x ++ bNl).size from (ByteArray.size_append).symm]
    exact ext_right (x ++ bNl) r
  rw [e1, e2]
theorem cut_any (x : ByteArray) (hn : x.size < 4294967281) : ∃ l r w, strings_Cut.f x (⟨#[10]⟩ : ByteArray) = some (l, r, w) ∧ (w = true → l.size + r.size + 1 ≤ x.size) ∧ l.size ≤ x.size := by
  unfold strings_Cut.f
  rw [if_pos hn]
  by_cases h : 0 ≤ Lib.indexB x (⟨#[10]⟩ : ByteArray)
  · rw [if_pos h]
    have hi : Lib.indexB x (⟨#[10]⟩ : ByteArray) = Lib.indexByte x.data.toList 10 := indexB_nl x
    obtain ⟨o, ho⟩ : ∃ o : Nat, Lib.indexB x (⟨#[10]⟩ : ByteArray) = o := ⟨_, (Int.toNat_of_nonneg h).symm⟩
    obtain ⟨h1, _⟩ := Lib.indexByte_some (hi.symm.trans ho)
    have hlt : o < x.size := by
      have := (List.getElem?_eq_some_iff.mp h1).1
      rwa [data_length] at this
    refine ⟨_, _, _, rfl, ?_, ?_⟩
    · intro _
      rw [ho, Int.toNat_natCast, size_cut, ByteArray.size_extract, show (⟨#[10]⟩ : ByteArray).size = 1 from rfl]
      omega
    · rw [ByteArray.size_extract]; omega
  · rw [if_neg h]
    exact ⟨_, _, _, rfl, fun h => by simp at h, Nat.le_refl _⟩
theorem room_snoc (l : List S32) (s : S32) : room (l ++ [s]) = room l + (4 * wtS s + 13) := by
  induction l with
  | nil => simp [room]
  | cons t l ih => simp only [List.cons_append, room, ih]; omega
def DecR (b : ByteArray) (r : List S32 × Option Int) : Prop :=
  r = ([], some 270) ∨ ∃ l, r = (l, none) ∧ l.all stepOk = true ∧ b = encHead ++ (bodyOf l ++ encTail)
theorem dec_total (b : ByteArray) (R : Nat) (hR : R ≤ 4000000000000) : ∀ (d k : Nat) (x : ByteArray) (acc : List S32), x.size ≤ d → x.size ≤ 4000000000 → room acc + 13 * x.size ≤ R → R + d + 100 ≤ k →
    ∃ r, journal_Decode.l0 k b x acc = some r ∧ DecR b r := by
  intro d
  induction d with
  | zero =>
    intro k x acc hd hx hr hk
    obtain ⟨k, rfl⟩ : ∃ m, k = m + 1 := ⟨k - 1, by omega⟩
    simp only [journal_Decode.l0]
    rw [if_pos ((toList_nil x).mpr (by omega)), enc_at acc (by omega) (by omega)]
    simp only [Option.bind_some]
    unfold encOut
    by_cases h : acc.all stepOk = true
    · rw [if_pos h, if_pos none_isNone]
      by_cases e : (encHead ++ (bodyOf acc ++ encTail)).toList = b.toList
      · rw [if_pos e]
        exact ⟨_, rfl, .inr ⟨acc, rfl, h, ((toList_eq_iff _ _).mp e).symm⟩⟩
      · rw [if_neg e]
        exact ⟨_, rfl, .inl rfl⟩
    · rw [if_neg h, if_neg (by simp)]
      exact ⟨_, rfl, .inl rfl⟩
  | succ d ih =>
    intro k x acc hd hx hr hk
    obtain ⟨k, rfl⟩ : ∃ m, k = m + 1 := ⟨k - 1, by omega⟩
    by_cases h0 : x.size = 0
    · obtain ⟨r, h1, h2⟩ := ih (k + 1) x acc (by omega) hx hr (by omega)
      exact ⟨r, h1, h2⟩
    simp only [journal_Decode.l0]
    rw [if_neg (fun h => h0 ((toList_nil x).mp h))]
    obtain ⟨l, t, w, hc, hs, hl⟩ := cut_any x (by omega)
    rw [hc]
    simp only [Option.bind_some]
    rw [step_at l (by omega) (by omega)]
    simp only [Option.bind_some]
    cases w with
    | false => exact ⟨_, by simp, .inl rfl⟩
    | true =>
      have hs' := hs rfl
      have hps := pstep_size l
      simp only [if_true]
      by_cases hok : (pstep l).2.2.2 = true
      · rw [if_pos hok, valid_at _ _ _ (by omega)]
        simp only [Option.bind_some]
        by_cases hv : stepOk ⟨(pstep l).1, (pstep l).2.1, (pstep l).2.2.1⟩ = true
        · have hroom := room_snoc acc ⟨(pstep l).1, (pstep l).2.1, (pstep l).2.2.1⟩
          have hlen := room_length acc
          unfold wtS at hroom
          simp only at hroom
          rw [if_pos hv, if_pos none_isNone, if_pos (by omega)]
          exact ih k t _ (by omega) (by omega) (by omega) (by omega)
        · rw [if_neg hv, if_neg (by simp)]
          exact ⟨_, rfl, .inl rfl⟩
      · rw [if_neg hok]
        exact ⟨_, rfl, .inl rfl⟩
theorem dec_back (b : ByteArray) : ∀ (l acc : List S32) (k : Nat), (acc ++ l).all stepOk = true → b = encHead ++ (bodyOf (acc ++ l) ++ encTail) → room (acc ++ l) ≤ 2000000000 → room (acc ++ l) + l.length + 100 ≤ k →
    journal_Decode.l0 k b (bodyOf l) acc = some (acc ++ l, none) := by
  intro l
  induction l with
  | nil =>
    intro acc k ha hb hr hk
    obtain ⟨k, rfl⟩ : ∃ m, k = m + 1 := ⟨k - 1, by omega⟩
    rw [List.append_nil] at ha hb hr hk ⊢
    rw [show bodyOf ([] : List S32) = (⟨#[]⟩ : ByteArray) from rfl]
    simp only [journal_Decode.l0]
    rw [if_pos nil_list, enc_at acc (by omega) (by omega)]
    simp only [Option.bind_some]
    unfold encOut
    rw [if_pos ha, if_pos none_isNone, if_pos ((toList_eq_iff _ _).mpr hb.symm)]
  | cons s l ih =>
    intro acc k ha hb hr hk
    obtain ⟨k, rfl⟩ : ∃ m, k = m + 1 := ⟨k - 1, by omega⟩
    have hs : stepOk s = true := by
      rw [List.all_eq_true] at ha
      exact ha s (by simp)
    have hm := room_mem (acc ++ s :: l) s (by simp)
    have hlen := room_length (acc ++ s :: l)
    rw [List.length_append, List.length_cons] at hlen
    have hbs := body_size l
    have hlr : room l ≤ room (acc ++ s :: l) := by
      clear ih ha hb hr hk hm hlen
      induction acc with
      | nil => simp only [List.nil_append, room]; omega
      | cons t acc iha => simp only [List.cons_append, room]; omega
    have hlo := lineOf_size s
    have hlb := lineB_size s
    have hbo : bodyOf (s :: l) = (lineB s ++ bNl) ++ bodyOf l := rfl
    simp only [journal_Decode.l0]
    have hsz : (bodyOf (s :: l)).size = (lineOf s).size + (bodyOf l).size := by rw [hbo, ByteArray.size_append]; rfl
    rw [if_neg (fun h => by have := (toList_nil _).mp h; omega), hbo, cut_line _ _ (noNl_line s) (by rw [← hbo]; omega)]
    simp only [Option.bind_some]
    rw [step_at _ (by omega) (by omega), pstep_line s hs]
    simp only [Option.bind_some, if_true]
    unfold wtS at hm
    rw [valid_at _ _ _ (by omega)]
    have hs' : stepOk ⟨s.f0, s.f1, s.f2⟩ = true := hs
    rw [hs']
    simp only [Option.bind_some, if_true]
    rw [if_pos none_isNone, if_pos (by omega)]
    have e : acc ++ s :: l = (acc ++ [s]) ++ l := by simp
    rw [e] at ha hb hr hk ⊢
    have hk' : room (acc ++ [s] ++ l) + l.length + 100 ≤ k := by simp only [List.length_cons] at hk; omega
    have := ih (acc ++ [s]) k ha hb hr hk'
    exact this
def hasS (x p : ByteArray) : Bool := decide (p.size ≤ x.size) && ((x.extract (x.size - p.size) x.size).toList == p.toList)
theorem cutSuffix_at (x p : ByteArray) (hn : x.size ≤ 4000000000) : strings_CutSuffix.f x p = some (if hasS x p = true then (x.extract 0 (x.size - p.size), true) else (x, false)) := by
  unfold strings_CutSuffix.f stringslite_CutSuffix.f stringslite_HasSuffix.f hasS
  by_cases h : p.size ≤ x.size
  · have w1 : wrap64 ((x.size : Int) - (p.size : Int)) = ((x.size - p.size : Nat) : Int) := by rw [w64' (by omega) (by omega)]; omega
    rw [w1, if_pos (by omega), if_pos (by omega), if_pos (by omega), decide_eq_true h]
    simp only [Option.bind_some, Bool.true_and, Int.toNat_natCast]
    by_cases e : ((x.extract (x.size - p.size) x.size).toList == p.toList) = true
    · rw [if_pos e, if_pos (by omega), if_pos (by omega), if_pos e]; rfl
    · rw [if_neg e, if_neg e]; rfl
  · rw [if_neg (by omega), decide_eq_false h]
    simp
theorem hasS_app (r p : ByteArray) : hasS (r ++ p) p = true ∧ (r ++ p).extract 0 ((r ++ p).size - p.size) = r := by
  have e : (r ++ p).size - p.size = r.size := by rw [ByteArray.size_append]; omega
  unfold hasS
  rw [e, ext_right, ext_left, ByteArray.size_append]
  simp
theorem decode_total (b : ByteArray) (hb : b.size ≤ 200000000) {k : Nat} (hk : 14 * b.size + 200 ≤ k) : ∃ r, journal_Decode.f k b = some r ∧ DecR b r := by
  obtain ⟨k, rfl⟩ : ∃ m, k = m + 1 := ⟨k - 1, by omega⟩
  unfold journal_Decode.f
  rw [cutPrefix_at]
  simp only [Option.bind_some]
  by_cases h1 : hasP b encHead = true
  · have h1' : hasP b (⟨#[115, 101, 108, 118, 97, 103, 101, 32, 106, 111, 117, 114, 110, 97, 108, 32, 49, 10]⟩ : ByteArray) = true := h1
    rw [if_pos h1']
    simp only [if_true]
    have hc := cut_size b encHead.size
    rw [show (⟨#[115, 101, 108, 118, 97, 103, 101, 32, 106, 111, 117, 114, 110, 97, 108, 32, 49, 10]⟩ : ByteArray).size = encHead.size from rfl, cutSuffix_at _ _ (by omega)]
    simp only [Option.bind_some]
    by_cases h2 : hasS (b.extract encHead.size b.size) (⟨#[101, 110, 100, 10]⟩ : ByteArray) = true
    · rw [if_pos h2]
      simp only [journal_Decode.j0, if_true]
      have hx : ((b.extract encHead.size b.size).extract 0 ((b.extract encHead.size b.size).size - (⟨#[101, 110, 100, 10]⟩ : ByteArray).size)).size ≤ b.size := by
        rw [ByteArray.size_extract]; omega
      exact dec_total b (13 * b.size) (by omega) b.size k _ [] hx (by omega) (by simp only [room]; omega) (by omega)
    · rw [if_neg h2]
      simp only [journal_Decode.j0]
      exact ⟨_, rfl, .inl rfl⟩
  · have h1' : ¬ hasP b (⟨#[115, 101, 108, 118, 97, 103, 101, 32, 106, 111, 117, 114, 110, 97, 108, 32, 49, 10]⟩ : ByteArray) = true := h1
    rw [if_neg h1']
    simp only [Bool.false_eq_true, if_false, journal_Decode.j0]
    exact ⟨_, rfl, .inl rfl⟩
theorem decode_back (l : List S32) (ha : l.all stepOk = true) (hr : room l ≤ 2000000000) {k : Nat} (hk : room l + l.length + 101 ≤ k) : journal_Decode.f k (encHead ++ (bodyOf l ++ encTail)) = some (l, none) := by
  obtain ⟨k, rfl⟩ : ∃ m, k = m + 1 := ⟨k - 1, by omega⟩
  have hbs := body_size l
  unfold journal_Decode.f
  rw [cutPrefix_at]
  simp only [Option.bind_some]
  have h1' : hasP (encHead ++ (bodyOf l ++ encTail)) (⟨#[115, 101, 108, 118, 97, 103, 101, 32, 106, 111, 117, 114, 110, 97, 108, 32, 49, 10]⟩ : ByteArray) = true := hasP_app encHead _
  rw [if_pos h1']
  simp only [if_true]
  rw [show (⟨#[115, 101, 108, 118, 97, 103, 101, 32, 106, 111, 117, 114, 110, 97, 108, 32, 49, 10]⟩ : ByteArray).size = encHead.size from rfl, cut_app, cutSuffix_at _ _ (by rw [ByteArray.size_append, show encTail.size = 4 from rfl]; omega)]
  simp only [Option.bind_some]
  have h2 := hasS_app (bodyOf l) encTail
  have h2' : hasS (bodyOf l ++ encTail) (⟨#[101, 110, 100, 10]⟩ : ByteArray) = true := h2.1
  have h3' : (bodyOf l ++ encTail).extract 0 ((bodyOf l ++ encTail).size - (⟨#[101, 110, 100, 10]⟩ : ByteArray).size) = bodyOf l := h2.2
  rw [if_pos h2', h3']
  simp only [journal_Decode.j0, if_true]
  have := dec_back (encHead ++ (bodyOf l ++ encTail)) l [] k (by simpa using ha) (by simp) (by simpa using hr) (by simp only [List.nil_append]; omega)
  simpa using this
end Go.Proofs.YtfempodohmhhlaaDoor.Pure
