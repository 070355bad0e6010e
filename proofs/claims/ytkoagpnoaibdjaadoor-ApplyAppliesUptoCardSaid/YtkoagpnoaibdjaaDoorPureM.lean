/-
  Lines, in plain Lean: what both sides take for a line, for a list of lines.
-/
import Derived.Test.YtkoagpnoaibdjaaDoorEPure
import Derived.Test.YtkoagpnoaibdjaaDoorPp3
import Derived.Test.YtkoagpnoaibdjaaDoorPp5
import Derived.Lib.IndexLaws
import Derived.Test.YtkoagpnoaibdjaaDoorEFuncs
import Derived.Test.YtkoagpnoaibdjaaDoorPp7
import Derived.Test.YtkoagpnoaibdjaaDoorELeft
import Derived.Test.YtkoagpnoaibdjaaDoorERefFind
import Derived.Test.YtkoagpnoaibdjaaDoorPp4
import Derived.Test.YtkoagpnoaibdjaaDoorPp8
import Derived.Test.YtkoagpnoaibdjaaDoorEFind
import Derived.Laws.Bits64
import Derived.Test.YtkoagpnoaibdjaaDoorERefApply
import Derived.Test.YtkoagpnoaibdjaaDoorEKind
import Derived.Test.YtkoagpnoaibdjaaDoorESure
import Derived.Test.YtkoagpnoaibdjaaDoorPp9
namespace Go.Proofs.YtkoagpnoaibdjaaDoor.Pure
open Go.RowKit Go.Proofs.YtkoagpnoaibdjaaDoor.Pp Go.Proofs.YtkoagpnoaibdjaaDoor.Ext Go.Proofs.YtkoagpnoaibdjaaDoorW.PrintWords Go.Proofs.YtkoagpnoaibdjaaDoorW.PrintLast Go.Proofs.YtkoagpnoaibdjaaDoorW.PrintMore
set_option linter.unusedVariables false
set_option linter.unusedSimpArgs false
theorem Ev.pure {α : Type} (v : α) : Ev (fun _ => some v) v := ⟨0, fun _ _ => rfl⟩
theorem Ev.same {α : Type} {F G : Nat → Option α} {v : α} (h : ∀ k, F k = G k) (hg : Ev G v) : Ev F v := Ev.congr h hg
theorem Ev.get {α : Type} {F : Nat → Option α} {v : α} (h : Ev F v) : ∃ k, F k = some v := Ev.rounds h
theorem data_len (s : ByteArray) : s.data.toList.length = s.size := by rw [Array.length_toList]; rfl
theorem w_of (n : Nat) (m : Int) (h : m = (n : Int)) (hn : n ≤ 9223372036854775807) : wrap64 m = (n : Int) := by rw [h]; exact w64' (by omega) (by omega)
theorem bt_at (s : ByteArray) (j : Nat) (h : j < s.size) : (bt s (j : Int) = 10) ↔ s.data.toList[j]? = some 10 := by
  have hl : j < s.data.toList.length := by rw [data_len]; exact h
  rw [bt_list, List.getD_eq_getElem?_getD, List.getElem?_eq_getElem hl, Option.getD_some]
  constructor
  · intro e; congr 1; exact UInt8.toNat_inj.mp (by have : (10 : UInt8).toNat = 10 := rfl; omega)
  · intro e; injection e with e; rw [e]; rfl
theorem ix (s : ByteArray) : (Lib.indexByte s.data.toList 10 = -1 ∧ ∀ j : Nat, j < s.size → bt s (j : Int) ≠ 10) ∨
    (∃ o : Nat, o < s.size ∧ Lib.indexByte s.data.toList 10 = (o : Int) ∧ bt s (o : Int) = 10 ∧ ∀ j : Nat, j < o → bt s (j : Int) ≠ 10) := by
  have hge := Lib.indexByte_ge s.data.toList 10
  rcases (by omega : Lib.indexByte s.data.toList 10 = -1 ∨ 0 ≤ Lib.indexByte s.data.toList 10) with h | h
  · exact .inl ⟨h, fun j hj e => Lib.indexByte_none h j ((bt_at s j hj).mp e)⟩
  · obtain ⟨o, ho⟩ : ∃ o : Nat, Lib.indexByte s.data.toList 10 = o := ⟨_, (Int.toNat_of_nonneg h).symm⟩
    obtain ⟨h1, h2⟩ := Lib.indexByte_some ho
    have hlt : o < s.size := by
      rw [← data_len]
      exact (List.getElem?_eq_some_iff.mp h1).1
    exact .inr ⟨o, hlt, ho, (bt_at s o hlt).mpr h1, fun j hj e => h2 j hj ((bt_at s j (by omega)).mp e)⟩
theorem ixf (s : ByteArray) : strings_IndexByte.f s 10 = some (Lib.indexByte s.data.toList 10) := rfl
def whole (s : ByteArray) : Bool := decide (0 < s.size ∧ bt s ((s.size : Int) - 1) = 10)
def body (s : ByteArray) : Bool := decide (∀ j, j < s.size - 1 → bt s ((j : Nat) : Int) ≠ 10)
def line (s : ByteArray) : Bool := decide (0 < s.size) && body s
def validL : List ByteArray → Bool
  | [] => true
  | s :: t => line s && (t.isEmpty || whole s) && validL t
theorem nil_size (s : ByteArray) : s.toList = ([] : List UInt8) ↔ ¬ 0 < s.size := by rw [toList_nil]; omega
theorem drop_by {α : Type} (l : List α) (d : α) (i : Nat) (h : i < l.length) : l.drop i = l.getD i d :: l.drop (i + 1) := by
  rw [List.getD_eq_getElem?_getD, List.getElem?_eq_getElem h]
  exact List.drop_eq_getElem_cons h
theorem drop_empty {α : Type} (l : List α) (n : Nat) : (l.drop n).isEmpty = decide (l.length ≤ n) := by
  by_cases h : l.length ≤ n
  · rw [List.drop_of_length_le h, decide_eq_true h]; rfl
  · rw [decide_eq_false h]
    cases hd : l.drop n with
    | nil => have := congrArg List.length hd; rw [List.length_drop] at this; simp at this; omega
    | cons a b => rfl
theorem ask (s : ByteArray) (hs : s.size ≤ 4000000000) (more : Bool) (P : Prop) [Decidable P] (hP : P ↔ more = true) (F : Option Bool) (r : Bool) (hF : F = some r) :
    ((strings_IndexByte.f s 10).bind fun t111 => (if s.toList = ([] : List UInt8) then (some false) else (if t111 ≥ 0 then (if t111 < (wrap64 ((s.size : Int) - 1)) then (some false) else (if t111 < 0 then (if P then (some false) else F) else F)) else (if t111 < 0 then (if P then (some false) else F) else F)))) =
      some (line s && ((!more) || whole s) && r) := by
  rw [ixf, Option.bind_some]
  by_cases h0 : 0 < s.size
  · rw [if_neg (by rw [nil_size]; omega), w64' (by omega) (by omega)]
    have hl0 : decide (0 < s.size) = true := decide_eq_true h0
    rcases ix s with ⟨hx, hn⟩ | ⟨o, ho, hx, hb, hn⟩
    · rw [hx, if_neg (by omega), if_pos (by omega)]
      have hb : body s = true := decide_eq_true (fun j hj => hn j (by omega))
      have hw : whole s = false := decide_eq_false (fun hh => hn (s.size - 1) (by omega) (by rw [show ((s.size - 1 : Nat) : Int) = (s.size : Int) - 1 by omega]; exact hh.2))
      unfold line
      rw [hl0, hb, hw]
      cases more with
      | true => rw [if_pos (hP.mpr rfl)]; rfl
      | false => rw [if_neg (fun h => by have := hP.mp h; cases this), hF]; simp
    · rw [hx, if_pos (by omega)]
      by_cases hlt : (o : Int) < (s.size : Int) - 1
      · rw [if_pos hlt]
        have hb : body s = false := decide_eq_false (fun hh => hh o (by omega) hb)
        unfold line
        rw [hb]; simp
      · rw [if_neg hlt, if_neg (by omega), hF]
        have hb2 : body s = true := decide_eq_true (fun j hj => hn j (by omega))
        have hw : whole s = true := decide_eq_true ⟨h0, by rw [show (s.size : Int) - 1 = (o : Int) by omega]; exact hb⟩
        unfold line
        rw [hl0, hb2, hw]; simp
  · rw [if_pos (by rw [nil_size]; exact h0)]
    unfold line
    rw [decide_eq_false h0]; simp
theorem p_valid_at (l : List ByteArray) (hl : l.length ≤ 4000000000) (hs : ∀ s ∈ l, s.size ≤ 4000000000) (d : Nat) : ∀ i : Nat, i + d = l.length → Ev (fun k => lines_Valid.l0 k l l (l.length : Int) (i : Int)) (validL (l.drop i)) := by
  induction d with
  | zero =>
    intro i h
    rw [List.drop_of_length_le (by omega)]
    exact Ev.step (f := fun _ => some true) (fun k => by rw [lines_Valid.l0, if_neg (by omega)]) (Ev.pure _)
  | succ d ih =>
    intro i h
    have hi : i < l.length := by omega
    rw [drop_by l ByteArray.empty i hi]
    obtain ⟨s, hse⟩ : ∃ s, s = l.getD i ByteArray.empty := ⟨_, rfl⟩
    have hm : s ∈ l := by rw [hse, List.getD_eq_getElem?_getD, List.getElem?_eq_getElem hi]; exact List.getElem_mem hi
    obtain ⟨K, hK⟩ := ih (i + 1) (by omega)
    refine ⟨K + 1, fun k hk => ?_⟩
    obtain ⟨k, rfl⟩ : ∃ j, k = j + 1 := ⟨k - 1, by omega⟩
    show lines_Valid.l0 (k + 1) l l (l.length : Int) (i : Int) = some _
    rw [← hse, validL, lines_Valid.l0, if_pos (by omega), if_pos (by omega), if_pos (by omega), rd_nat, ← hse]
    rw [ask s (hs s hm) (!(l.drop (i + 1)).isEmpty) ((i : Int) < wrap64 ((l.length : Int) - 1)) ?_ _ (validL (l.drop (i + 1))) ?_, Bool.not_not]
    · rw [w64' (by omega) (by omega)]
      rw [drop_empty]
      simp only [Bool.not_eq_true', decide_eq_false_iff_not]
      omega
    · rw [w_of (i + 1) _ (by omega) (by omega)]
      exact hK k (by omega)
theorem p_valid (l : List ByteArray) (hl : l.length ≤ 4000000000) (hs : ∀ s ∈ l, s.size ≤ 4000000000) : Ev (fun k => lines_Valid.f k l) (validL l) := by
  have := p_valid_at l hl hs l.length 0 (by omega)
  rw [List.drop_zero] at this
  exact this
theorem r_body (l : List ByteArray) (i : Nat) (hi : i < l.length) (hl : l.length ≤ 4000000000) (s : ByteArray) (hse : s = l.getD i ByteArray.empty) (hs : s.size ≤ 4000000000) (r : Bool)
    (hr : Ev (fun k => selvageref01_Valid.l0 k l (wrap64 ((i : Int) + 1))) r) (d : Nat) : ∀ j : Nat, (j : Int) + d = max 0 ((s.size : Int) - 1) → (∀ x : Nat, x < j → bt s (x : Int) ≠ 10) →
    Ev (fun k => selvageref01_Valid.l1 k l (i : Int) (s.size : Int) (j : Int)) (line s && ((l.drop (i + 1)).isEmpty || whole s) && r) := by
  have he := drop_empty l (i + 1)
  induction d with
  | zero =>
    intro j hj hn
    have hb : body s = true := decide_eq_true (fun x hx => hn x (by omega))
    obtain ⟨K, hK⟩ := hr
    refine ⟨K + 1, fun k hk => ?_⟩
    obtain ⟨k, rfl⟩ : ∃ j, k = j + 1 := ⟨k - 1, by omega⟩
    have hKk : selvageref01_Valid.l0 k l (wrap64 ((i : Int) + 1)) = some r := hK k (by omega)
    show selvageref01_Valid.l1 (k + 1) l (i : Int) (s.size : Int) (j : Int) = some _
    rw [selvageref01_Valid.l1, w64' (i := (s.size : Int) - 1) (by omega) (by omega), w64' (i := (l.length : Int) - 1) (by omega) (by omega), if_neg (by omega), rd_nat, ← hse]
    unfold line
    rw [hb, he]
    by_cases h0 : 0 < s.size
    · rw [if_neg (by omega), decide_eq_true h0]
      by_cases hlast : l.length ≤ i + 1
      · rw [if_neg (by omega), hKk, decide_eq_true hlast]; simp
      · rw [if_pos (by omega), if_pos (by omega), if_pos (by omega), if_pos (by omega), if_pos (by omega), decide_eq_false hlast]
        by_cases hw : bt s ((s.size : Int) - 1) = 10
        · rw [if_pos hw, hKk, show whole s = true from decide_eq_true ⟨h0, hw⟩]; simp
        · rw [if_neg hw, show whole s = false from decide_eq_false (fun x => hw x.2)]; simp
    · rw [if_pos (by omega), decide_eq_false h0]; simp
  | succ d ih =>
    intro j hj hn
    by_cases hb : bt s (j : Int) = 10
    · refine Ev.step (f := fun _ => some (line s && ((l.drop (i + 1)).isEmpty || whole s) && r)) (fun k => ?_) (Ev.pure _)
      rw [selvageref01_Valid.l1, w64' (i := (s.size : Int) - 1) (by omega) (by omega), if_pos (by omega), if_pos (by omega), if_pos (by omega), if_pos (by omega), rd_nat, ← hse, if_pos (by omega), if_pos hb]
      have hb2 : body s = false := decide_eq_false (fun hh => hh j (by omega) hb)
      unfold line
      rw [hb2]; simp
    · refine Ev.step (fun k => ?_) (ih (j + 1) (by omega) (fun x hx => by rcases Nat.lt_or_ge x j with h' | h'; exact hn x h'; rw [show x = j by omega]; exact hb))
      rw [selvageref01_Valid.l1, w64' (i := (s.size : Int) - 1) (by omega) (by omega), if_pos (by omega), if_pos (by omega), if_pos (by omega), if_pos (by omega), rd_nat, ← hse, if_pos (by omega), if_neg hb, w_of (j + 1) _ (by omega) (by omega)]
theorem r_valid_at (l : List ByteArray) (hl : l.length ≤ 4000000000) (hs : ∀ s ∈ l, s.size ≤ 4000000000) (d : Nat) : ∀ i : Nat, i + d = l.length → Ev (fun k => selvageref01_Valid.l0 k l (i : Int)) (validL (l.drop i)) := by
  induction d with
  | zero =>
    intro i h
    rw [List.drop_of_length_le (by omega)]
    exact Ev.step (f := fun _ => some true) (fun k => by rw [selvageref01_Valid.l0, if_neg (by omega)]) (Ev.pure _)
  | succ d ih =>
    intro i h
    have hi : i < l.length := by omega
    rw [drop_by l ByteArray.empty i hi]
    obtain ⟨s, hse⟩ : ∃ s, s = l.getD i ByteArray.empty := ⟨_, rfl⟩
    have hm : s ∈ l := by rw [hse, List.getD_eq_getElem?_getD, List.getElem?_eq_getElem hi]; exact List.getElem_mem hi
    have h2 := r_body l i hi hl s hse (hs s hm) (validL (l.drop (i + 1))) (Ev.same (G := fun k => selvageref01_Valid.l0 k l ((i + 1 : Nat) : Int)) (fun k => by rw [w_of (i + 1) _ (by omega) (by omega)]) (ih (i + 1) (by omega))) (max 0 ((s.size : Int) - 1)).toNat 0 (by omega) (fun x hx => by omega)
    rw [← hse, validL]
    refine Ev.step (fun k => ?_) h2
    rw [selvageref01_Valid.l0, if_pos (by omega), if_pos (by omega), rd_nat, ← hse]
    rfl
theorem r_valid (l : List ByteArray) (hl : l.length ≤ 4000000000) (hs : ∀ s ∈ l, s.size ≤ 4000000000) : Ev (fun k => selvageref01_Valid.f k l) (validL l) := by
  have := r_valid_at l hl hs l.length 0 (by omega)
  rw [List.drop_zero] at this
  exact this
theorem last_byte (s : ByteArray) (n : Nat) (hn : s.size = n + 1) : ∃ b : UInt8, s.data.toList = s.data.toList.take n ++ [b] ∧ bt s (n : Int) = (b.toNat : Int) := by
  have hl : n < s.data.toList.length := by rw [data_len]; omega
  refine ⟨s.data.toList[n], ?_, ?_⟩
  · have h1 := List.take_append_drop n s.data.toList
    rw [List.drop_eq_getElem_cons hl, List.drop_of_length_le (by rw [data_len]; omega)] at h1
    exact h1.symm
  · rw [bt_list, List.getD_eq_getElem?_getD, List.getElem?_eq_getElem hl]; rfl
theorem suffix_at (s : ByteArray) (hs : s.size ≤ 4000000000) : stringslite_HasSuffix.f s (⟨#[10]⟩ : ByteArray) = some (whole s) := by
  unfold stringslite_HasSuffix.f
  have h1 : (⟨#[10]⟩ : ByteArray).size = 1 := rfl
  rw [h1]
  by_cases h : 0 < s.size
  · obtain ⟨n, hn⟩ : ∃ n, s.size = n + 1 := ⟨s.size - 1, by omega⟩
    have w : wrap64 ((s.size : Int) - ((1 : Nat) : Int)) = (n : Int) := by rw [w64' (by omega) (by omega)]; omega
    obtain ⟨b, hb, hv⟩ := last_byte s n hn
    have hsuf : (s.extract n s.size).toList = [b] := by
      rw [Lib.toList_data, Lib.extract_data, hb, List.drop_left' (by rw [List.length_take, data_len]; omega), hn, show n + 1 - n = 1 by omega]; rfl
    have h10 : (⟨#[10]⟩ : ByteArray).toList = ([10] : List UInt8) := by rw [Lib.toList_data]
    rw [if_pos (by omega), w, if_pos (by omega), if_pos (by omega), Int.toNat_natCast, hsuf, h10]
    unfold whole
    rw [show (s.size : Int) - 1 = (n : Int) by omega, hv]
    congr 1
    by_cases e : b = 10
    · rw [e, decide_eq_true ⟨h, by rfl⟩]; rfl
    · have hne : ¬ (b.toNat : Int) = 10 := fun x => e (UInt8.toNat_inj.mp (by have : (10 : UInt8).toNat = 10 := rfl; omega))
      rw [decide_eq_false (fun x => hne x.2)]
      simp [e]
  · rw [if_neg (by omega)]
    unfold whole
    rw [decide_eq_false (fun x => h x.1)]
theorem whole_at (s : ByteArray) (hs : s.size ≤ 4000000000) : lines_Whole.f s = some (whole s) := by
  unfold lines_Whole.f strings_HasSuffix.f
  rw [suffix_at s hs]; rfl
theorem r_whole_at (s : ByteArray) (hs : s.size ≤ 4000000000) : selvageref01_Whole.f s = some (whole s) := by
  unfold selvageref01_Whole.f whole
  by_cases h : 0 < s.size
  · rw [if_pos (by omega), w64' (by omega) (by omega), if_pos (by omega), if_pos (by omega)]
    congr 1
    by_cases e : bt s ((s.size : Int) - 1) = 10
    · rw [e, decide_eq_true ⟨h, rfl⟩]; rfl
    · rw [decide_eq_false (fun x => e x.2)]
      exact beq_eq_false_iff_ne.mpr e
  · rw [if_neg (by omega), decide_eq_false (fun x => h x.1)]
def bare (s : ByteArray) : ByteArray := if whole s = true then s.extract 0 (s.size - 1) else s
theorem bare_at (s : ByteArray) (hs : s.size ≤ 4000000000) : lines_Bare.f s = some (bare s) := by
  unfold lines_Bare.f strings_TrimSuffix.f stringslite_TrimSuffix.f bare
  rw [suffix_at s hs, Option.bind_some]
  have h1 : (⟨#[10]⟩ : ByteArray).size = 1 := rfl
  rw [h1]
  cases hw : whole s with
  | false => rw [if_neg (by simp), if_neg (by simp)]; rfl
  | true =>
    have h0 := (of_decide_eq_true hw).1
    rw [if_pos rfl, if_pos rfl, w64' (by omega) (by omega), if_pos (by omega), if_pos (by omega), show ((s.size : Int) - ((1 : Nat) : Int)).toNat = s.size - 1 by omega]
    rfl
theorem contains_at (s : ByteArray) : strings_Contains.f s (⟨#[10]⟩ : ByteArray) = some (decide (∃ j, j < s.size ∧ bt s ((j : Nat) : Int) = 10)) := by
  show some (decide (0 ≤ Lib.indexByte s.data.toList 10)) = _
  congr 1
  rcases ix s with ⟨hx, hn⟩ | ⟨o, ho, hx, hb, hn⟩
  · rw [hx, decide_eq_false (by omega)]
    symm
    exact decide_eq_false (fun ⟨j, h1, h2⟩ => hn j h1 h2)
  · rw [hx, decide_eq_true (by omega)]
    symm
    exact decide_eq_true ⟨o, ho, hb⟩
theorem bare_body (s : ByteArray) (h0 : 0 < s.size) : (!decide (∃ j, j < (bare s).size ∧ bt (bare s) ((j : Nat) : Int) = 10)) = body s := by
  unfold bare body
  cases hw : whole s with
  | true =>
    rw [if_pos rfl]
    have hz : (s.extract 0 (s.size - 1)).size = s.size - 1 := by rw [ByteArray.size_extract]; omega
    rw [← decide_not]
    congr 1
    apply propext
    constructor
    · intro h j hj e
      exact h ⟨j, by rw [hz]; exact hj, by rw [bt_extract s 0 (s.size - 1) j (by omega), Nat.zero_add]; exact e⟩
    · rintro h ⟨j, hj, e⟩
      rw [hz] at hj
      rw [bt_extract s 0 (s.size - 1) j (by omega), Nat.zero_add] at e
      exact h j hj e
  | false =>
    rw [if_neg (by simp), ← decide_not]
    have hlast : bt s ((s.size : Int) - 1) ≠ 10 := fun e => (of_decide_eq_false hw) ⟨h0, e⟩
    congr 1
    apply propext
    constructor
    · intro h j hj e
      exact h ⟨j, by omega, e⟩
    · rintro h ⟨j, hj, e⟩
      by_cases hj2 : j < s.size - 1
      · exact h j hj2 e
      · exact hlast (by rw [show (s.size : Int) - 1 = (j : Int) by omega]; exact e)
theorem line_at (s : ByteArray) (hs : s.size ≤ 4000000000) : hunks_line.f s = some (line s) := by
  unfold hunks_line.f line
  by_cases h0 : 0 < s.size
  · rw [if_neg (by rw [nil_size]; omega), bare_at s hs, Option.bind_some, contains_at, Option.bind_some, bare_body s h0, decide_eq_true h0]; rfl
  · rw [if_pos (by rw [nil_size]; exact h0), decide_eq_false h0]; rfl
theorem r_line_at (s : ByteArray) (hs : s.size ≤ 4000000000) (d : Nat) : ∀ j : Nat, (j : Int) + d = max 0 ((s.size : Int) - 1) → (∀ x : Nat, x < j → bt s (x : Int) ≠ 10) → Ev (fun k => selvageref10_line.l0 k s (j : Int)) (line s) := by
  induction d with
  | zero =>
    intro j hj hn
    refine Ev.step (f := fun _ => some (line s)) (fun k => ?_) (Ev.pure _)
    have hb : body s = true := decide_eq_true (fun x hx => hn x (by omega))
    rw [selvageref10_line.l0, w64' (by omega) (by omega), if_neg (by omega)]
    unfold line
    rw [hb, Bool.and_true]
    congr 1
    by_cases h0 : 0 < s.size
    · rw [decide_eq_true h0]; exact bne_iff_ne.mpr (by rw [Ne, nil_size]; omega)
    · rw [decide_eq_false h0]; exact bne_eq_false_iff_eq.mpr (by rw [nil_size]; exact h0)
  | succ d ih =>
    intro j hj hn
    by_cases hb : bt s (j : Int) = 10
    · refine Ev.step (f := fun _ => some (line s)) (fun k => ?_) (Ev.pure _)
      rw [selvageref10_line.l0, w64' (by omega) (by omega), if_pos (by omega), if_pos (by omega), if_pos (by omega), if_pos hb]
      have hb2 : body s = false := decide_eq_false (fun hh => hh j (by omega) hb)
      unfold line
      rw [hb2]; simp
    · refine Ev.step (fun k => ?_) (ih (j + 1) (by omega) (fun x hx => by rcases Nat.lt_or_ge x j with h' | h'; exact hn x h'; rw [show x = j by omega]; exact hb))
      rw [selvageref10_line.l0, w64' (i := (s.size : Int) - 1) (by omega) (by omega), if_pos (by omega), if_pos (by omega), if_pos (by omega), if_neg hb, w_of (j + 1) _ (by omega) (by omega)]
theorem r_line (s : ByteArray) (hs : s.size ≤ 4000000000) : Ev (fun k => selvageref10_line.f k s) (line s) :=
  r_line_at s hs (max 0 ((s.size : Int) - 1)).toNat 0 (by omega) (fun x hx => by omega)
end Go.Proofs.YtkoagpnoaibdjaaDoor.Pure
namespace Go.Proofs.YtkoagpnoaibdjaaDoor.Pure
open Go.RowKit Go.Proofs.YtkoagpnoaibdjaaDoor.Pp Go.Proofs.YtkoagpnoaibdjaaDoor.Ext Go.Proofs.YtkoagpnoaibdjaaDoorW.PrintWords Go.Proofs.YtkoagpnoaibdjaaDoorW.PrintLast Go.Proofs.YtkoagpnoaibdjaaDoorW.PrintMore
set_option linter.unusedVariables false
set_option linter.unusedSimpArgs false
abbrev Row := S61
abbrev Hunk := S44
def isOld (r : Row) : Bool := r.f0 == 1 || r.f0 == 2
def isNew (r : Row) : Bool := r.f0 == 1 || r.f0 == 3
def good (r : Row) (e o : Bool) : Bool := (isOld r || isNew r) && line r.f1 && !(isOld r && e) && !(isNew r && o)
def rowsOk : List Row → Bool → Bool → Bool → Bool
  | [], _, _, ch => ch
  | r :: t, e, o, ch => if good r e o = true then rowsOk t (e || (isOld r && !whole r.f1)) (o || (isNew r && !whole r.f1)) (ch || (r.f0 != 1)) else false
def cntOld (l : List Row) : Nat := l.countP isOld
def cntNew (l : List Row) : Nat := l.countP isNew
theorem cntOld_le (l : List Row) : cntOld l ≤ l.length := List.countP_le_length
theorem cntNew_le (l : List Row) : cntNew l ≤ l.length := List.countP_le_length
theorem kinds (r : Row) : (r.f0 = 1 ∧ isOld r = true ∧ isNew r = true) ∨ (r.f0 = 2 ∧ isOld r = true ∧ isNew r = false) ∨ (r.f0 = 3 ∧ isOld r = false ∧ isNew r = true) ∨
    ((r.f0 ≠ 1 ∧ r.f0 ≠ 2 ∧ r.f0 ≠ 3) ∧ isOld r = false ∧ isNew r = false) := by
  by_cases h1 : r.f0 = 1
  · left; simp [isOld, isNew, h1]
  · by_cases h2 : r.f0 = 2
    · right; left; simp [isOld, isNew, h2]
    · by_cases h3 : r.f0 = 3
      · right; right; left; simp [isOld, isNew, h3]
      · right; right; right; simp [isOld, isNew, h1, h2, h3]
def placeOk (a n : Int) : Bool := decide (0 ≤ n ∧ 0 ≤ a ∧ (0 < a ∨ n = 0) ∧ a ≤ 2147483647 ∧ n ≤ 2147483647 - a)
def headOk (s : ByteArray) : Bool := decide (s.size ≤ 4096) && !decide (∃ j, j < s.size ∧ bt s ((j : Nat) : Int) = 10)
def hunkOk (h : Hunk) : Bool := rowsOk h.f5 false false false && decide (h.f1 = cntOld h.f5) && decide (h.f3 = cntNew h.f5) && placeOk h.f0 h.f1 && placeOk h.f2 h.f3 && headOk h.f4
theorem add_at (c : Int) (e : Bool) (s : ByteArray) (hs : s.size ≤ 4000000000) : hunks_side_add.f c e s = some (if e = true then (false, c, e) else (true, wrap64 (c + 1), !whole s)) := by
  unfold hunks_side_add.f
  cases e with
  | true => rfl
  | false => rw [if_neg (by simp), whole_at s hs, if_neg (by simp)]; rfl
theorem p_sides : ∀ (l : List Row) (c d : Nat) (e f ch : Bool), c + l.length ≤ 4000000000 → d + l.length ≤ 4000000000 → (∀ r ∈ l, r.f1.size ≤ 4000000000) →
    ∃ x, sidesF l c e d f ch = some x ∧ x.2.2 = rowsOk l e f ch ∧ (rowsOk l e f ch = true → x.1.1 = ((c + cntOld l : Nat) : Int) ∧ x.2.1.1 = ((d + cntNew l : Nat) : Int))
  | [], c, d, e, f, ch, _, _, _ => ⟨_, rfl, rfl, fun _ => ⟨rfl, rfl⟩⟩
  | r :: t, c, d, e, f, ch, hc, hd, hs => by
    have hr := hs r (List.mem_cons_self)
    have ht : ∀ r ∈ t, r.f1.size ≤ 4000000000 := fun x hx => hs x (List.mem_cons_of_mem _ hx)
    simp only [List.length_cons] at hc hd
    have wc : wrap64 ((c : Int) + 1) = ((c + 1 : Nat) : Int) := w_of (c + 1) _ (by omega) (by omega)
    have wd : wrap64 ((d : Int) + 1) = ((d + 1 : Nat) : Int) := w_of (d + 1) _ (by omega) (by omega)
    unfold sidesF rowsOk good
    rw [line_at _ hr]
    simp only [addIf, add_at _ _ _ hr, Option.bind_some]
    rcases kinds r with ⟨hk, h1, h2⟩ | ⟨hk, h1, h2⟩ | ⟨hk, h1, h2⟩ | ⟨hk, h1, h2⟩
    · rw [h1, h2, hk, if_neg (by omega), if_neg (by omega)]
      cases hl : line r.f1 with
      | false => exact ⟨_, by rw [if_neg (by simp)], by simp, by simp⟩
      | true =>
        cases e with
        | true => exact ⟨_, (by simp; rfl), by simp, by simp⟩
        | false =>
          cases f with
          | true => exact ⟨_, (by simp; rfl), by simp, by simp⟩
          | false =>
            obtain ⟨x, e1, e2, e3⟩ := p_sides t (c + 1) (d + 1) (!whole r.f1) (!whole r.f1) ch (by omega) (by omega) ht
            refine ⟨x, by simpa [wc, wd] using e1, by simpa using e2, fun h => ?_⟩
            have := e3 (by simpa using h)
            unfold cntOld cntNew at this ⊢
            simp only [List.countP_cons, h1, h2, Bool.false_eq_true, if_true, if_false, Nat.add_zero]
            exact ⟨this.1.trans (by congr 1; omega), this.2.trans (by congr 1; omega)⟩
    · rw [h1, h2, hk, if_neg (by omega), if_neg (by omega)]
      cases hl : line r.f1 with
      | false => exact ⟨_, by rw [if_neg (by simp)], by simp, by simp⟩
      | true =>
        cases e with
        | true => exact ⟨_, (by simp; rfl), by simp, by simp⟩
        | false =>
          obtain ⟨x, e1, e2, e3⟩ := p_sides t (c + 1) d (!whole r.f1) f true (by omega) (by omega) ht
          refine ⟨x, by simpa [wc] using e1, by simpa using e2, fun h => ?_⟩
          have := e3 (by simpa using h)
          unfold cntOld cntNew at this ⊢
          simp only [List.countP_cons, h1, h2, Bool.false_eq_true, if_true, if_false, Nat.add_zero]
          exact ⟨this.1.trans (by congr 1; omega), this.2⟩
    · rw [h1, h2, hk, if_neg (by omega), if_neg (by omega)]
      cases hl : line r.f1 with
      | false => exact ⟨_, by rw [if_neg (by simp)], by simp, by simp⟩
      | true =>
        cases f with
        | true => exact ⟨_, (by simp; rfl), by simp, by simp⟩
        | false =>
          obtain ⟨x, e1, e2, e3⟩ := p_sides t c (d + 1) e (!whole r.f1) true (by omega) (by omega) ht
          refine ⟨x, by simpa [wd] using e1, by simpa using e2, fun h => ?_⟩
          have := e3 (by simpa using h)
          unfold cntOld cntNew at this ⊢
          simp only [List.countP_cons, h1, h2, Bool.false_eq_true, if_true, if_false, Nat.add_zero]
          exact ⟨this.1, this.2.trans (by congr 1; omega)⟩
    · rw [h1, h2]
      by_cases c1 : r.f0 < 1
      · exact ⟨_, by rw [if_pos c1], by simp, by simp⟩
      · exact ⟨_, by rw [if_neg c1, if_pos (by omega)], by simp, by simp⟩
theorem p_place (a n : Int) (ha : -9223372036854775808 ≤ a ∧ a ≤ 9223372036854775807) : hunks_place.f a n = some (placeOk a n) := by
  unfold hunks_place.f placeOk
  by_cases h1 : n ≥ 0
  · by_cases h2 : a ≥ 0
    · rw [if_pos h1, if_pos h2]
      have hw : a ≤ 2147483647 → wrap64 (2147483647 - a) = 2147483647 - a := fun h => w64' (by omega) (by omega)
      by_cases h4 : a ≤ 2147483647
      · rw [hw h4]
        by_cases h3 : a > 0
        · rw [if_pos h3, if_pos h4]; congr 1; exact decide_eq_decide.mpr (by omega)
        · rw [if_neg h3]
          by_cases h5 : n = 0
          · rw [if_pos h5, if_pos h4]; congr 1; exact decide_eq_decide.mpr (by omega)
          · rw [if_neg h5]; congr 1; symm; exact decide_eq_false (by omega)
      · rw [if_neg h4, if_pos (by omega)]; congr 1; symm; exact decide_eq_false (by omega)
    · rw [if_pos h1, if_neg h2]; congr 1; symm; exact decide_eq_false (by omega)
  · rw [if_neg h1]; congr 1; symm; exact decide_eq_false (by omega)
structure Small (h : Hunk) : Prop where
  rows : h.f5.length ≤ 1048576
  texts : ∀ r ∈ h.f5, r.f1.size ≤ 1048576
  head : h.f4.size ≤ 1048576
  a : -9223372036854775808 ≤ h.f0 ∧ h.f0 ≤ 9223372036854775807
  b : -9223372036854775808 ≤ h.f2 ∧ h.f2 ≤ 9223372036854775807
theorem p_hunk (h : Hunk) (hs : Small h) : validF h = some (if hunkOk h = true then none else some 100) := by
  have h1 := hs.rows
  obtain ⟨x, e1, e2, e3⟩ := p_sides h.f5 0 0 false false false (by omega) (by omega) (fun r hr => by have := hs.texts r hr; omega)
  unfold validF hunks_Valid.f hunks_sides.f
  rw [if_pos (by omega)]
  rw [show (0 : Int) = ((0 : Nat) : Int) from rfl, e1, Option.map_some, Option.bind_some]
  simp only [e2]
  unfold hunkOk
  cases hr : rowsOk h.f5 false false false with
  | false => rw [if_neg (by simp)]; simp
  | true =>
    obtain ⟨e4, e5⟩ := e3 hr
    rw [Nat.zero_add] at e4 e5
    rw [if_pos rfl, e4, e5, p_place _ _ hs.a, p_place _ _ hs.b, contains_at]
    simp only [Option.bind_some, Bool.true_and]
    by_cases c1 : h.f1 = (cntOld h.f5 : Int)
    · by_cases c2 : h.f3 = (cntNew h.f5 : Int)
      · rw [if_pos c1.symm, if_pos c2.symm, decide_eq_true c1, decide_eq_true c2]
        cases placeOk h.f0 h.f1 with
        | false => simp
        | true =>
          cases placeOk h.f2 h.f3 with
          | false => simp
          | true =>
            unfold headOk
            by_cases c3 : h.f4.size ≤ 4096
            · rw [if_pos rfl, if_pos rfl, if_neg (by omega), decide_eq_true c3]
              cases decide (∃ j, j < h.f4.size ∧ bt h.f4 ((j : Nat) : Int) = 10) <;> simp
            · rw [if_pos rfl, if_pos rfl, if_pos (by omega), decide_eq_false c3]; simp
      · rw [if_pos c1.symm, if_neg (fun h => c2 h.symm), decide_eq_false c2]; simp
    · rw [if_neg (fun h => c1 h.symm), decide_eq_false c1]; simp
theorem r_old (r : Row) : selvageref10_old.f r.f0 r.f1 = some (isOld r) := by
  unfold selvageref10_old.f isOld
  by_cases h : r.f0 = 1
  · rw [if_pos h, h]; rfl
  · rw [if_neg h, show (r.f0 == 1) = false from beq_eq_false_iff_ne.mpr h, Bool.false_or]
theorem r_new (r : Row) : selvageref10_fresh.f r.f0 r.f1 = some (isNew r) := by
  unfold selvageref10_fresh.f isNew
  by_cases h : r.f0 = 1
  · rw [if_pos h, h]; rfl
  · rw [if_neg h, show (r.f0 == 1) = false from beq_eq_false_iff_ne.mpr h, Bool.false_or]
theorem rd_row (l : List Row) (i : Nat) : rd_T61 l ((i : Nat) : Int) = l.getD i z61 := by show l.getD ((i : Int)).toNat _ = _; simp
theorem r_counts_at (l : List Row) (hl : l.length ≤ 4000000000) (d : Nat) : ∀ (i a b : Nat), i + d = l.length → a ≤ i → b ≤ i → Ev (fun k => selvageref10_Counts.l0 k l a b (i : Int)) (((a + cntOld (l.drop i) : Nat) : Int), ((b + cntNew (l.drop i) : Nat) : Int)) := by
  induction d with
  | zero =>
    intro i a b h _ _
    rw [List.drop_of_length_le (by omega)]
    exact Ev.step (f := fun _ => some ((a : Int), (b : Int))) (fun k => by rw [selvageref10_Counts.l0, if_neg (by omega)]) (Ev.pure _)
  | succ d ih =>
    intro i a b h ha hb
    have hi : i < l.length := by omega
    rw [drop_by l z61 i hi]
    obtain ⟨r, hr⟩ : ∃ r, r = l.getD i z61 := ⟨_, rfl⟩
    have wi : wrap64 ((i : Int) + 1) = ((i + 1 : Nat) : Int) := w_of (i + 1) _ (by omega) (by omega)
    have wa : wrap64 ((a : Int) + 1) = ((a + 1 : Nat) : Int) := w_of (a + 1) _ (by omega) (by omega)
    have wb : wrap64 ((b : Int) + 1) = ((b + 1 : Nat) : Int) := w_of (b + 1) _ (by omega) (by omega)
    unfold cntOld cntNew
    rw [← hr, List.countP_cons, List.countP_cons]
    have hstep : ∀ k, selvageref10_Counts.l0 (k + 1) l a b (i : Int) = selvageref10_Counts.l0 k l ((a + (if isOld r = true then 1 else 0) : Nat) : Int) ((b + (if isNew r = true then 1 else 0) : Nat) : Int) ((i + 1 : Nat) : Int) := by
      intro k
      rw [selvageref10_Counts.l0, if_pos (by omega), if_pos (by omega), rd_row, ← hr, r_old, r_new, Option.bind_some, Option.bind_some, wi, wa, wb]
      cases isOld r <;> cases isNew r <;> simp
    have h2 := ih (i + 1) (a + (if isOld r = true then 1 else 0)) (b + (if isNew r = true then 1 else 0)) (by omega) (by split <;> omega) (by split <;> omega)
    unfold cntOld cntNew at h2
    rw [show a + ((l.drop (i + 1)).countP isOld + if isOld r = true then 1 else 0) = a + (if isOld r = true then 1 else 0) + (l.drop (i + 1)).countP isOld by omega,
      show b + ((l.drop (i + 1)).countP isNew + if isNew r = true then 1 else 0) = b + (if isNew r = true then 1 else 0) + (l.drop (i + 1)).countP isNew by omega]
    exact Ev.step hstep h2
theorem r_counts (l : List Row) (hl : l.length ≤ 4000000000) : Ev (fun k => selvageref10_Counts.f k l) ((cntOld l : Int), (cntNew l : Int)) := by
  have := r_counts_at l hl l.length 0 0 0 (by omega) (by omega) (by omega)
  rw [List.drop_zero, Nat.zero_add, Nat.zero_add] at this
  exact this
theorem r_part (k : Nat) (l : List Row) (e o ch : Bool) (i : Nat) (hi : (i : Int) + 1 ≤ 9223372036854775807) (r : Row) (hs : r.f1.size ≤ 4000000000) :
    selvageref10_rows.j1 (k + 1) l e o ch (i : Int) false r.f0 r.f1 = selvageref10_rows.l0 k l (e || (isOld r && !whole r.f1)) (o || (isNew r && !whole r.f1)) (ch || (r.f0 != 1)) ((i + 1 : Nat) : Int) := by
  rw [selvageref10_rows.j1, if_neg (by simp), r_whole_at _ hs, r_old, r_new, Option.bind_some, Option.bind_some, Option.bind_some, w_of (i + 1) _ (by omega) (by omega)]
  cases e <;> cases o <;> cases ch <;> cases whole r.f1 <;> cases isOld r <;> cases isNew r <;> simp
theorem r_rows_at (l : List Row) (hl : l.length ≤ 4000000000) (hs : ∀ r ∈ l, r.f1.size ≤ 4000000000) (d : Nat) : ∀ (i : Nat) (e o ch : Bool), i + d = l.length → Ev (fun k => selvageref10_rows.l0 k l e o ch (i : Int)) (rowsOk (l.drop i) e o ch) := by
  induction d with
  | zero =>
    intro i e o ch h
    rw [List.drop_of_length_le (by omega)]
    exact Ev.step (f := fun _ => some ch) (fun k => by rw [selvageref10_rows.l0, if_neg (by omega)]) (Ev.pure _)
  | succ d ih =>
    intro i e o ch h
    have hi : i < l.length := by omega
    rw [drop_by l z61 i hi]
    obtain ⟨r, hr⟩ : ∃ r, r = l.getD i z61 := ⟨_, rfl⟩
    have hm : r ∈ l := by rw [hr, List.getD_eq_getElem?_getD, List.getElem?_eq_getElem hi]; exact List.getElem_mem hi
    have hz := hs r hm
    rw [← hr, rowsOk]
    obtain ⟨K1, hK1⟩ := r_line r.f1 hz
    have hstep : ∀ k, K1 ≤ k → selvageref10_rows.l0 (k + 1) l e o ch (i : Int) = selvageref10_rows.j1 k l e o ch (i : Int) (!good r e o) r.f0 r.f1 := by
      intro k hk
      have hline : selvageref10_line.f k r.f1 = some (line r.f1) := hK1 k hk
      rw [selvageref10_rows.l0, if_pos (by omega), if_pos (by omega), rd_row, ← hr, r_old, r_new, hline]
      unfold good
      cases e <;> cases o <;> cases isOld r <;> cases isNew r <;> cases line r.f1 <;> simp
    cases hg : good r e o with
    | false =>
      refine ⟨K1 + 2, fun k hk => ?_⟩
      obtain ⟨k, rfl⟩ : ∃ j, k = j + 1 + 1 := ⟨k - 2, by omega⟩
      show selvageref10_rows.l0 (k + 1 + 1) l e o ch (i : Int) = some _
      rw [hstep _ (by omega), hg, if_neg (by simp), selvageref10_rows.j1, if_pos (by rfl)]
    | true =>
      obtain ⟨K2, hK2⟩ := ih (i + 1) (e || (isOld r && !whole r.f1)) (o || (isNew r && !whole r.f1)) (ch || (r.f0 != 1)) (by omega)
      refine ⟨K1 + K2 + 2, fun k hk => ?_⟩
      obtain ⟨k, rfl⟩ : ∃ j, k = j + 1 + 1 := ⟨k - 2, by omega⟩
      show selvageref10_rows.l0 (k + 1 + 1) l e o ch (i : Int) = some _
      rw [hstep _ (by omega), hg, if_pos rfl, Bool.not_true, r_part k l e o ch i (by omega) r hz]
      exact hK2 k (by omega)
theorem r_rows (l : List Row) (hl : l.length ≤ 4000000000) (hs : ∀ r ∈ l, r.f1.size ≤ 4000000000) : Ev (fun k => selvageref10_rows.f k l) (rowsOk l false false false) := by
  have := r_rows_at l hl hs l.length 0 false false false (by omega)
  rw [List.drop_zero] at this
  exact this
theorem r_start (a n : Int) (hn : 0 ≤ n ∧ n ≤ 4000000000) : selvageref10_start.f a n = some (placeOk a n) := by
  unfold selvageref10_start.f placeOk
  rw [w64' (i := 2147483647 - n) (by omega) (by omega)]
  by_cases h1 : n = 0
  · rw [if_pos h1]
    by_cases h2 : a ≥ 0
    · rw [if_pos h2]; congr 1; exact decide_eq_decide.mpr (by omega)
    · rw [if_neg h2]; congr 1; symm; exact decide_eq_false (by omega)
  · rw [if_neg h1]
    by_cases h2 : a ≥ 1
    · rw [if_pos h2]; congr 1; exact decide_eq_decide.mpr (by omega)
    · rw [if_neg h2]; congr 1; symm; exact decide_eq_false (by omega)
theorem r_head_at (h : Hunk) (hs : h.f4.size ≤ 4000000000) (d : Nat) : ∀ (j : Nat) (x : Bool), j + d = h.f4.size →
    Ev (fun k => selvageref10_Valid.l0 k x (j : Int) h.f0 h.f1 h.f2 h.f3 h.f4 h.f5) (if (x && !decide (∃ y, y < h.f4.size ∧ j ≤ y ∧ bt h.f4 ((y : Nat) : Int) = 10)) = true then 0 else 100) := by
  induction d with
  | zero =>
    intro j x hj
    have hd : decide (∃ y, y < h.f4.size ∧ j ≤ y ∧ bt h.f4 ((y : Nat) : Int) = 10) = false := decide_eq_false (fun ⟨y, h1, h2, _⟩ => by omega)
    rw [hd]
    refine Ev.step (f := fun _ => some (if x = true then 0 else 100)) (fun k => ?_) ?_
    · rw [selvageref10_Valid.l0, if_neg (by omega)]
      cases x <;> rfl
    · cases x <;> exact Ev.pure _
  | succ d ih =>
    intro j x hj
    have wj : wrap64 ((j : Int) + 1) = ((j + 1 : Nat) : Int) := w_of (j + 1) _ (by omega) (by omega)
    cases x with
    | false =>
      have := ih (j + 1) false (by omega)
      rw [Bool.false_and] at this ⊢
      refine Ev.step (fun k => ?_) this
      rw [selvageref10_Valid.l0, if_pos (by omega), if_neg (by simp), wj]
    | true =>
      have := ih (j + 1) (bt h.f4 (j : Int) != 10) (by omega)
      have he : (true && !decide (∃ y, y < h.f4.size ∧ j ≤ y ∧ bt h.f4 ((y : Nat) : Int) = 10)) = ((bt h.f4 (j : Int) != 10) && !decide (∃ y, y < h.f4.size ∧ j + 1 ≤ y ∧ bt h.f4 ((y : Nat) : Int) = 10)) := by
        rw [Bool.true_and]
        by_cases hb : bt h.f4 (j : Int) = 10
        · rw [show (bt h.f4 (j : Int) != 10) = false from bne_eq_false_iff_eq.mpr hb, decide_eq_true ⟨j, by omega, Nat.le_refl _, hb⟩]; rfl
        · rw [show (bt h.f4 (j : Int) != 10) = true from bne_iff_ne.mpr hb, Bool.true_and]
          congr 1
          apply decide_eq_decide.mpr
          constructor
          · rintro ⟨y, h1, h2, h3⟩
            rcases Nat.lt_or_ge j y with c | c
            · exact ⟨y, h1, c, h3⟩
            · exact absurd h3 (by rw [show y = j by omega]; exact hb)
          · rintro ⟨y, h1, h2, h3⟩
            exact ⟨y, h1, by omega, h3⟩
      rw [he]
      refine Ev.step (fun k => ?_) this
      rw [selvageref10_Valid.l0, if_pos (by omega), if_pos rfl, if_pos (by omega), wj]
theorem r_hunk (h : Hunk) (hs : Small h) : Ev (fun k => selvageref10_Valid.f k h.f0 h.f1 h.f2 h.f3 h.f4 h.f5) (if hunkOk h = true then 0 else 100) := by
  have h1 := hs.rows
  have h2 := hs.head
  have hc1 := cntOld_le h.f5
  have hc2 := cntNew_le h.f5
  have jump : ∀ (x : Bool) (v : Int), (if (x && !decide (∃ y, y < h.f4.size ∧ bt h.f4 ((y : Nat) : Int) = 10)) = true then 0 else 100) = v → Ev (fun k => selvageref10_Valid.j0 k x h.f0 h.f1 h.f2 h.f3 h.f4 h.f5) v := by
    intro x v hv
    have := r_head_at h (by omega) h.f4.size 0 x (by omega)
    rw [show decide (∃ y, y < h.f4.size ∧ 0 ≤ y ∧ bt h.f4 ((y : Nat) : Int) = 10) = decide (∃ y, y < h.f4.size ∧ bt h.f4 ((y : Nat) : Int) = 10) from decide_eq_decide.mpr ⟨fun ⟨y, a, _, b⟩ => ⟨y, a, b⟩, fun ⟨y, a, b⟩ => ⟨y, a, Nat.zero_le _, b⟩⟩, hv] at this
    exact Ev.step (fun k => by rw [selvageref10_Valid.j0]; rfl) this
  unfold selvageref10_Valid.f
  refine Ev.bind (r_counts h.f5 (by omega)) (Ev.bind (r_rows h.f5 (by omega) (fun r hr => by have := hs.texts r hr; omega)) ?_)
  unfold hunkOk
  cases rowsOk h.f5 false false false with
  | false =>
    refine Ev.same (fun k => if_neg (by simp)) (jump false _ ?_)
    simp
  | true =>
    refine Ev.same (fun k => if_pos rfl) ?_
    simp only []
    by_cases c1 : h.f1 = (cntOld h.f5 : Int)
    · refine Ev.same (fun k => if_pos c1) ?_
      by_cases c2 : h.f3 = (cntNew h.f5 : Int)
      · refine Ev.same (fun k => if_pos c2) ?_
        rw [← c1, ← c2, decide_eq_true rfl, decide_eq_true rfl, r_start h.f0 h.f1 (by omega), r_start h.f2 h.f3 (by omega)]
        simp only [Option.bind_some]
        cases placeOk h.f0 h.f1 with
        | false =>
          refine Ev.same (fun k => if_neg (by simp)) (jump false _ ?_)
          simp
        | true =>
          refine Ev.same (fun k => if_pos rfl) ?_
          cases placeOk h.f2 h.f3 with
          | false =>
            refine Ev.same (fun k => if_neg (by simp)) (jump false _ ?_)
            simp
          | true =>
            refine Ev.same (fun k => if_pos rfl) (jump _ _ ?_)
            unfold headOk
            simp only [Bool.true_and]
            rw [show decide ((h.f4.size : Int) ≤ 4096) = decide (h.f4.size ≤ 4096) from decide_eq_decide.mpr (by omega)]
      · refine Ev.same (fun k => if_neg c2) (jump false _ ?_)
        rw [decide_eq_false c2]; simp
    · refine Ev.same (fun k => if_neg c1) (jump false _ ?_)
      rw [decide_eq_false c1]; simp
end Go.Proofs.YtkoagpnoaibdjaaDoor.Pure
namespace Go.Proofs.YtkoagpnoaibdjaaDoor.Pure
open Go.RowKit Go.Proofs.YtkoagpnoaibdjaaDoor.Pp Go.Proofs.YtkoagpnoaibdjaaDoor.Ext Go.Proofs.YtkoagpnoaibdjaaDoorW.PrintWords Go.Proofs.YtkoagpnoaibdjaaDoorW.PrintLast Go.Proofs.YtkoagpnoaibdjaaDoorW.PrintMore
set_option linter.unusedVariables false
set_option linter.unusedSimpArgs false
theorem rowsOk_kinds : ∀ (l : List Row) (e o ch : Bool), rowsOk l e o ch = true → ∀ r ∈ l, r.f0 = 1 ∨ r.f0 = 2 ∨ r.f0 = 3
  | [], _, _, _, _, r, hr => by cases hr
  | x :: t, e, o, ch, h, r, hr => by
    unfold rowsOk at h
    split at h
    · rename_i hg
      rcases List.mem_cons.mp hr with rfl | hr
      · rcases kinds r with ⟨hk, _⟩ | ⟨hk, _⟩ | ⟨hk, _⟩ | ⟨_, h1, h2⟩
        · exact .inl hk
        · exact .inr (.inl hk)
        · exact .inr (.inr hk)
        · unfold good at hg; rw [h1, h2] at hg; simp at hg
      · exact rowsOk_kinds t _ _ _ h r hr
    · cases h
theorem rowsOk_change : ∀ (l : List Row) (e o ch : Bool), rowsOk l e o ch = true → ch = true ∨ behN l < l.length
  | [], _, _, _, h => .inl h
  | x :: t, e, o, ch, h => by
    unfold rowsOk at h
    split at h
    · by_cases hk : x.f0 = 1
      · rcases rowsOk_change t _ _ _ h with h' | h'
        · rw [hk] at h'
          exact .inl (by simpa using h')
        · right
          simp only [behN, List.length_cons]
          rw [if_pos hk]; omega
      · right
        simp only [behN, List.length_cons]
        rw [if_neg hk]; omega
    · cases h
theorem hunk_rows {h : Hunk} (hk : hunkOk h = true) : rowsOk h.f5 false false false = true := by
  unfold hunkOk at hk
  simp only [Bool.and_eq_true] at hk
  exact hk.1.1.1.1.1
theorem hunk_change {h : Hunk} (hk : hunkOk h = true) : behN h.f5 < h.f5.length := by
  rcases rowsOk_change _ _ _ _ (hunk_rows hk) with h' | h'
  · cases h'
  · exact h'
theorem hunk_kinds {h : Hunk} (hk : hunkOk h = true) : ∀ r ∈ h.f5, r.f0 = 1 ∨ r.f0 = 2 ∨ r.f0 = 3 := rowsOk_kinds _ _ _ _ (hunk_rows hk)
theorem findCh_eq : ∀ (l : List Row) (i : Nat), findCh l i = if behN l < l.length then ((i + behN l : Nat) : Int) else -1
  | [], _ => rfl
  | x :: t, i => by
    unfold findCh behN
    by_cases hk : x.f0 = 1
    · rw [if_pos hk, if_pos hk, findCh_eq t (i + 1), List.length_cons]
      by_cases h : behN t < t.length
      · rw [if_pos h, if_pos (by omega)]; congr 1; omega
      · rw [if_neg h, if_neg (by omega)]
    · rw [if_neg hk, if_neg hk, List.length_cons, if_pos (by omega)]; rfl
theorem ends_apart (l : List Row) (h : behN l < l.length) : behN l + behN l.reverse < l.length := by
  rcases Nat.lt_or_ge (behN l + behN l.reverse) l.length with h1 | h1
  · exact h1
  · exfalso
    have h2 := behN_at l h
    have h3 := behN_in l.reverse (l.length - 1 - behN l) (by omega)
    rw [rev_getD l _ (by omega), show l.length - 1 - (l.length - 1 - behN l) = behN l by omega] at h3
    exact h2 h3
def leftR (l : List Row) (n : Nat) : List Row := (l.take (l.length - min (behN l.reverse) n)).drop (min (behN l) n)
theorem leftR_le (l : List Row) (n : Nat) : (leftR l n).length ≤ l.length := by unfold leftR; rw [List.length_drop, List.length_take]; omega
theorem leftR_mem (l : List Row) (n : Nat) : ∀ r ∈ leftR l n, r ∈ l := fun r hr => List.mem_of_mem_take (List.mem_of_mem_drop hr)
theorem p_left (l : List Row) (n : Nat) (h : behN l < l.length) (hl : l.length ≤ 4000000000) : leftF l (n : Int) = some (leftR l n, ((min (behN l) n : Nat) : Int)) := by
  have h2 := ends_apart l h
  unfold leftF leftR cutL
  rw [findCh_eq, if_pos h, Nat.zero_add, if_pos ⟨by omega, by omega, by omega, by omega⟩]
  have e1 : (if (behN l : Int) < (n : Int) then (behN l : Int) else (n : Int)) = ((min (behN l) n : Nat) : Int) := by split <;> omega
  have e2 : ((l.length : Int) - if (behN l.reverse : Int) < (n : Int) then (behN l.reverse : Int) else (n : Int)) = ((l.length - min (behN l.reverse) n : Nat) : Int) := by split <;> omega
  rw [e1, e2, Int.toNat_natCast, Int.toNat_natCast]
theorem r_ahead (h : Hunk) (hl : h.f5.length ≤ 4000000000) (v : Int × Int) (hb : behN h.f5 < h.f5.length) (hv : Ev (fun k => selvageref17_contexts.j1 k (behN h.f5 : Int) 0 h.f0 h.f1 h.f2 h.f3 h.f4 h.f5) v) (d : Nat) : ∀ i : Nat, i + d = behN h.f5 →
    Ev (fun k => selvageref17_contexts.l0 k (i : Int) 0 h.f0 h.f1 h.f2 h.f3 h.f4 h.f5) v := by
  induction d with
  | zero =>
    intro i hi
    rw [show i = behN h.f5 by omega]
    refine Ev.step (fun k => ?_) hv
    rw [selvageref17_contexts.l0, if_pos (by omega), if_pos (by omega), rd_row, if_neg (behN_at _ hb)]
  | succ d ih =>
    intro i hi
    refine Ev.step (fun k => ?_) (ih (i + 1) (by omega))
    rw [selvageref17_contexts.l0, if_pos (by omega), if_pos (by omega), rd_row, if_pos (behN_in _ _ (by omega)), w_of (i + 1) _ (by omega) (by omega)]
theorem r_behind (h : Hunk) (hl : h.f5.length ≤ 4000000000) (hb : behN h.f5 < h.f5.length) (d : Nat) : ∀ i : Nat, i + d = behN h.f5.reverse →
    Ev (fun k => selvageref17_contexts.l1 k (behN h.f5 : Int) (i : Int) h.f0 h.f1 h.f2 h.f3 h.f4 h.f5) ((behN h.f5 : Int), (behN h.f5.reverse : Int)) := by
  have h2 := ends_apart _ hb
  have hrow : ∀ i : Nat, i < h.f5.length → rd_T61 h.f5 (wrap64 (wrap64 ((h.f5.length : Int) - 1) - (i : Int))) = h.f5.reverse.getD i z61 := by
    intro i hi
    rw [w64' (i := (h.f5.length : Int) - 1) (by omega) (by omega), w_of (h.f5.length - 1 - i) _ (by omega) (by omega), rd_row, rev_getD _ _ hi]
  have hw : ∀ i : Nat, i < h.f5.length → wrap64 (wrap64 ((h.f5.length : Int) - 1) - (i : Int)) = ((h.f5.length - 1 - i : Nat) : Int) := by
    intro i hi
    rw [w64' (i := (h.f5.length : Int) - 1) (by omega) (by omega), w_of (h.f5.length - 1 - i) _ (by omega) (by omega)]
  induction d with
  | zero =>
    intro i hi
    have hi2 : i = behN h.f5.reverse := by omega
    refine Ev.step (f := fun _ => some ((behN h.f5 : Int), (behN h.f5.reverse : Int))) (fun k => ?_) (Ev.pure _)
    rw [selvageref17_contexts.l1, w64' (i := (h.f5.length : Int) - (behN h.f5 : Int)) (by omega) (by omega), if_pos (by omega), hrow i (by omega), hw i (by omega), if_pos (by omega), if_pos (by omega), if_neg, hi2]
    rw [hi2]
    exact behN_at _ (by rw [List.length_reverse]; omega)
  | succ d ih =>
    intro i hi
    refine Ev.step (fun k => ?_) (ih (i + 1) (by omega))
    rw [selvageref17_contexts.l1, w64' (i := (h.f5.length : Int) - (behN h.f5 : Int)) (by omega) (by omega), if_pos (by omega), hrow i (by omega), hw i (by omega), if_pos (by omega), if_pos (by omega), if_pos (behN_in _ _ (by omega)), w_of (i + 1) _ (by omega) (by omega)]
theorem r_contexts (h : Hunk) (hl : h.f5.length ≤ 4000000000) (hb : behN h.f5 < h.f5.length) : Ev (fun k => selvageref17_contexts.f k h.f0 h.f1 h.f2 h.f3 h.f4 h.f5) ((behN h.f5 : Int), (behN h.f5.reverse : Int)) := by
  refine r_ahead h hl _ hb ?_ (behN h.f5) 0 (by omega)
  exact Ev.step (fun k => by rw [selvageref17_contexts.j1]; rfl) (r_behind h hl hb (behN h.f5.reverse) 0 (by omega))
theorem r_left (h : Hunk) (n : Nat) (hb : behN h.f5 < h.f5.length) (hl : h.f5.length ≤ 4000000000) : Ev (fun k => refLeftF k h (n : Int)) (leftR h.f5 n, ((min (behN h.f5) n : Nat) : Int)) := by
  have h2 := ends_apart _ hb
  unfold refLeftF
  refine Ev.bind (r_contexts h hl hb) ?_
  have e1 : minF (behN h.f5 : Int) (n : Int) = ((min (behN h.f5) n : Nat) : Int) := by unfold minF; split <;> omega
  have e2 : wrap64 ((h.f5.length : Int) - minF (behN h.f5.reverse : Int) (n : Int)) = ((h.f5.length - min (behN h.f5.reverse) n : Nat) : Int) := by
    rw [show minF (behN h.f5.reverse : Int) (n : Int) = ((min (behN h.f5.reverse) n : Nat) : Int) by unfold minF; split <;> omega]
    exact w_of _ _ (by omega) (by omega)
  simp only [e1, e2]
  refine Ev.same (fun k => if_pos ⟨by omega, by omega, by omega⟩) ?_
  unfold leftR cutL
  rw [Int.toNat_natCast, Int.toNat_natCast]
  exact Ev.pure _
def oldS (l : List Row) : List ByteArray := (l.filter isOld).map (·.f1)
def newS (l : List Row) : List ByteArray := (l.filter isNew).map (·.f1)
theorem oldS_le (l : List Row) : (oldS l).length ≤ l.length := by unfold oldS; rw [List.length_map]; exact List.length_filter_le _ _
theorem newS_le (l : List Row) : (newS l).length ≤ l.length := by unfold newS; rw [List.length_map]; exact List.length_filter_le _ _
theorem p_sides_at (l : List Row) (hl : l.length ≤ 4000000000) (d : Nat) : ∀ (i : Nat) (x y : List ByteArray), i + d = l.length → x.length ≤ i → y.length ≤ i →
    Ev (fun k => hunks_Sides.l0 k x y l (l.length : Int) (i : Int)) (x ++ oldS (l.drop i), y ++ newS (l.drop i)) := by
  induction d with
  | zero =>
    intro i x y h _ _
    rw [List.drop_of_length_le (by omega)]
    refine Ev.step (f := fun _ => some (x, y)) (fun k => by rw [hunks_Sides.l0, if_neg (by omega)]) ?_
    unfold oldS newS
    simp only [List.filter_nil, List.map_nil, List.append_nil]
    exact Ev.pure _
  | succ d ih =>
    intro i x y h hx hy
    have hi : i < l.length := by omega
    rw [drop_by l z61 i hi]
    obtain ⟨r, hr⟩ : ∃ r, r = l.getD i z61 := ⟨_, rfl⟩
    have wi : wrap64 ((i : Int) + 1) = ((i + 1 : Nat) : Int) := w_of (i + 1) _ (by omega) (by omega)
    rw [← hr]
    have h2 := ih (i + 1) (x ++ (if isOld r = true then [r.f1] else [])) (y ++ (if isNew r = true then [r.f1] else [])) (by omega) (by split <;> simp <;> omega) (by split <;> simp <;> omega)
    have e1 : x ++ oldS (r :: l.drop (i + 1)) = (x ++ (if isOld r = true then [r.f1] else [])) ++ oldS (l.drop (i + 1)) := by unfold oldS; rw [List.filter_cons]; split <;> simp
    have e2 : y ++ newS (r :: l.drop (i + 1)) = (y ++ (if isNew r = true then [r.f1] else [])) ++ newS (l.drop (i + 1)) := by unfold newS; rw [List.filter_cons]; split <;> simp
    rw [e1, e2]
    refine Ev.step (fun k => (?_ : _ = hunks_Sides.j1 k x y l (l.length : Int) (i : Int) (isOld r) r.f0 r.f1)) (Ev.step (fun k => ?_) h2)
    · rw [hunks_Sides.l0, if_pos (by omega), if_pos (by omega), if_pos (by omega), rd_row, ← hr]
      unfold isOld
      by_cases hk : r.f0 = 1
      · rw [if_pos hk, hk]; rfl
      · rw [if_neg hk, show (r.f0 == 1) = false from beq_eq_false_iff_ne.mpr hk, Bool.false_or]
    · have hx1 : x.length < 8796093022208 := by omega
      have hy1 : y.length < 8796093022208 := by omega
      rw [hunks_Sides.j1, wi]
      rcases kinds r with ⟨hk, h3, h4⟩ | ⟨hk, h3, h4⟩ | ⟨hk, h3, h4⟩ | ⟨hk, h3, h4⟩
      · simp [h3, h4, hk, hx1, hy1]
      · simp [h3, h4, hk, hx1, hy1]
      · simp [h3, h4, hk, hx1, hy1]
      · simp [h3, h4, hk.1, hk.2.2, hx1, hy1]
theorem p_sides2 (l : List Row) (hl : l.length ≤ 4000000000) : Ev (fun k => apply_sides.f k l) (oldS l, newS l) := by
  have := p_sides_at l hl l.length 0 [] [] (by omega) (by simp) (by simp)
  rw [List.drop_zero, List.nil_append, List.nil_append] at this
  unfold apply_sides.f hunks_Sides.f
  exact Ev.bind this (Ev.pure _)
theorem r_side_at (l : List Row) (hl : l.length ≤ 4000000000) (but : Int) (P : Row → Bool) (hP : ∀ r ∈ l, (r.f0 = but ↔ P r = false)) (d : Nat) : ∀ (i : Nat) (x : List ByteArray), i + d = l.length → x.length ≤ i →
    Ev (fun k => selvageref17_side.l0 k l but x (i : Int)) (x ++ ((l.drop i).filter P).map (·.f1)) := by
  induction d with
  | zero =>
    intro i x h _
    rw [List.drop_of_length_le (by omega)]
    refine Ev.step (f := fun _ => some x) (fun k => by rw [selvageref17_side.l0, if_neg (by omega)]) ?_
    simp only [List.filter_nil, List.map_nil, List.append_nil]
    exact Ev.pure _
  | succ d ih =>
    intro i x h hx
    have hi : i < l.length := by omega
    rw [drop_by l z61 i hi]
    obtain ⟨r, hr⟩ : ∃ r, r = l.getD i z61 := ⟨_, rfl⟩
    have hm : r ∈ l := by rw [hr, List.getD_eq_getElem?_getD, List.getElem?_eq_getElem hi]; exact List.getElem_mem hi
    have wi : wrap64 ((i : Int) + 1) = ((i + 1 : Nat) : Int) := w_of (i + 1) _ (by omega) (by omega)
    rw [← hr, List.filter_cons]
    cases hp : P r with
    | false =>
      rw [if_neg (by simp)]
      refine Ev.step (fun k => ?_) (ih (i + 1) x (by omega) (by omega))
      rw [selvageref17_side.l0, if_pos (by omega), if_pos (by omega), rd_row, ← hr, if_pos ((hP r hm).mpr hp), wi]
    | true =>
      rw [if_pos rfl, List.map_cons, show x ++ r.f1 :: ((l.drop (i + 1)).filter P).map (·.f1) = (x ++ [r.f1]) ++ ((l.drop (i + 1)).filter P).map (·.f1) by simp]
      refine Ev.step (fun k => ?_) (ih (i + 1) (x ++ [r.f1]) (by omega) (by simp; omega))
      rw [selvageref17_side.l0, if_pos (by omega), if_pos (by omega), rd_row, ← hr, if_neg (fun h => by have := (hP r hm).mp h; rw [hp] at this; cases this), if_pos (by omega), wi]
theorem r_oldS (l : List Row) (hl : l.length ≤ 4000000000) (hk : ∀ r ∈ l, r.f0 = 1 ∨ r.f0 = 2 ∨ r.f0 = 3) : Ev (fun k => selvageref17_side.f k l 3) (oldS l) := by
  have := r_side_at l hl 3 isOld (fun r hr => by unfold isOld; rcases hk r hr with h | h | h <;> simp [h]) l.length 0 [] (by omega) (by simp)
  rw [List.drop_zero, List.nil_append] at this
  exact this
theorem r_newS (l : List Row) (hl : l.length ≤ 4000000000) (hk : ∀ r ∈ l, r.f0 = 1 ∨ r.f0 = 2 ∨ r.f0 = 3) : Ev (fun k => selvageref17_side.f k l 2) (newS l) := by
  have := r_side_at l hl 2 isNew (fun r hr => by unfold isNew; rcases hk r hr with h | h | h <;> simp [h]) l.length 0 [] (by omega) (by simp)
  rw [List.drop_zero, List.nil_append] at this
  exact this
end Go.Proofs.YtkoagpnoaibdjaaDoor.Pure
namespace Go.Proofs.YtkoagpnoaibdjaaDoor.Pure
open Go.RowKit Go.Proofs.YtkoagpnoaibdjaaDoor.Pp Go.Proofs.YtkoagpnoaibdjaaDoor.Ext Go.Proofs.YtkoagpnoaibdjaaDoorW.PrintWords Go.Proofs.YtkoagpnoaibdjaaDoorW.PrintLast Go.Proofs.YtkoagpnoaibdjaaDoorW.PrintMore
set_option linter.unusedVariables false
set_option linter.unusedSimpArgs false
def dist (a b : Int) : Int := max (a - b) (b - a)
theorem dist_le {a b : Int} (h : b ≤ a) : dist a b = a - b := by unfold dist; omega
theorem dist_ge {a b : Int} (h : a ≤ b) : dist a b = b - a := by unfold dist; omega
theorem dist_comm (a b : Int) : dist a b = dist b a := by unfold dist; omega
theorem far_core (a b : Int) (h : b ≤ a) (ha : -4611686018427387904 ≤ a ∧ a ≤ 4611686018427387904) (hb : -4611686018427387904 ≤ b ∧ b ≤ 4611686018427387904) :
    IntKind.u64.wrap (IntKind.u64.wrap a - IntKind.u64.wrap b) = a - b := by
  rw [IntKind.wrap_u64, IntKind.wrap_u64, IntKind.wrap_u64]
  omega
theorem far_at (a b : Int) (ha : -4611686018427387904 ≤ a ∧ a ≤ 4611686018427387904) (hb : -4611686018427387904 ≤ b ∧ b ≤ 4611686018427387904) : apply_far.f a b = some (dist a b) := by
  unfold apply_far.f dist
  by_cases h : a < b
  · rw [if_pos h, far_core b a (by omega) hb ha]; congr 1; omega
  · rw [if_neg h, far_core a b (by omega) ha hb]; congr 1; omega
theorem r_far_at (a b : Int) (ha : -4611686018427387904 ≤ a ∧ a ≤ 4611686018427387904) (hb : -4611686018427387904 ≤ b ∧ b ≤ 4611686018427387904) : selvageref17_far.f a b = some (dist a b) := by
  unfold selvageref17_far.f dist
  by_cases h : a < b
  · rw [if_pos h, far_core b a (by omega) hb ha]; congr 1; omega
  · rw [if_neg h, far_core a b (by omega) ha hb]; congr 1; omega
def atB (old l : List ByteArray) (p : Nat) : Bool := decide (∀ j, j < l.length → (l.getD j ByteArray.empty).toList = (old.getD (p + j) ByteArray.empty).toList)
theorem eq_at (l0 l1 : List ByteArray) (hl : l0.length = l1.length) (hb : l0.length ≤ 4000000000) (d : Nat) : ∀ (i k : Nat), i + d = l0.length → d + 1 ≤ k → (∀ j, j < i → (l0.getD j ByteArray.empty).toList = (l1.getD j ByteArray.empty).toList) →
    slices_Equal_string_string.l0 k l0 l1 (l0.length : Int) (i : Int) = some (decide (∀ j, j < l0.length → (l0.getD j ByteArray.empty).toList = (l1.getD j ByteArray.empty).toList)) := by
  induction d with
  | zero =>
    intro i k h hk hj
    obtain ⟨k, rfl⟩ : ∃ x, k = x + 1 := ⟨k - 1, by omega⟩
    rw [slices_Equal_string_string.l0, if_neg (by omega), decide_eq_true (fun j h' => hj j (by omega))]
  | succ d ih =>
    intro i k h hk hj
    obtain ⟨k, rfl⟩ : ∃ x, k = x + 1 := ⟨k - 1, by omega⟩
    rw [slices_Equal_string_string.l0, if_pos (by omega), if_pos (by omega), if_pos (by omega), if_pos (by omega), rd_nat, rd_nat]
    by_cases e : (l0.getD i ByteArray.empty).toList = (l1.getD i ByteArray.empty).toList
    · rw [if_pos e, w_of (i + 1) _ (by omega) (by omega)]
      refine ih (i + 1) k (by omega) (by omega) (fun j h' => ?_)
      rcases Nat.lt_or_ge j i with c | c
      · exact hj j c
      · rw [show j = i by omega]; exact e
    · rw [if_neg e, decide_eq_false (fun hh => e (hh i (by omega)))]
theorem cut_getD (old : List ByteArray) (p m j : Nat) (hj : j < m) (h : p + m ≤ old.length) : (cutL old (p : Int) ((p + m : Nat) : Int)).getD j ByteArray.empty = old.getD (p + j) ByteArray.empty := by
  unfold cutL
  rw [Int.toNat_natCast, Int.toNat_natCast, List.getD_eq_getElem?_getD, List.getElem?_drop, List.getElem?_take, if_pos (by omega), ← List.getD_eq_getElem?_getD]
theorem cutN_length (old : List ByteArray) (p m : Nat) (h : p + m ≤ old.length) : (cutL old (p : Int) ((p + m : Nat) : Int)).length = m := by
  unfold cutL
  rw [Int.toNat_natCast, Int.toNat_natCast, List.length_drop, List.length_take]; omega
theorem match_at (old l : List ByteArray) (kk q : Int) (p k : Nat) (hp : q + kk = p) (hl : p + l.length ≤ old.length) (hb : old.length ≤ 4000000000) (hk : l.length + 1 ≤ k) : matchF k l old kk q = some (atB old l p) := by
  unfold matchF slices_Equal_string_string.f
  have w1 : wrap64 (q + kk) = (p : Int) := w_of p _ hp (by omega)
  have w2 : wrap64 ((p : Int) + (l.length : Int)) = ((p + l.length : Nat) : Int) := w_of _ _ (by omega) (by omega)
  rw [w1, w2, if_pos ⟨by omega, by omega, by omega⟩, cutN_length old p l.length hl, if_pos rfl]
  have := eq_at l (cutL old (p : Int) ((p + l.length : Nat) : Int)) (cutN_length old p l.length hl).symm (by omega) l.length 0 k (by omega) hk (fun j h' => by omega)
  rw [show ((0 : Nat) : Int) = 0 from rfl] at this
  rw [this]
  unfold atB
  congr 1
  apply decide_eq_decide.mpr
  constructor
  · intro h j hj; have := h j hj; rw [cut_getD old p l.length j hj hl] at this; exact this
  · intro h j hj; rw [cut_getD old p l.length j hj hl]; exact h j hj
theorem r_at_loop (old l : List ByteArray) (p : Nat) (hl : p + l.length ≤ old.length) (hb : old.length ≤ 4000000000) (d : Nat) : ∀ (i k : Nat), i + d = l.length → d + 1 ≤ k → (∀ j, j < i → (l.getD j ByteArray.empty).toList = (old.getD (p + j) ByteArray.empty).toList) →
    selvageref17_at.l0 k old (p : Int) l (i : Int) = some (atB old l p) := by
  induction d with
  | zero =>
    intro i k h hk hj
    obtain ⟨k, rfl⟩ : ∃ x, k = x + 1 := ⟨k - 1, by omega⟩
    unfold atB
    rw [selvageref17_at.l0, if_neg (by omega), decide_eq_true (fun j h' => hj j (by omega))]
  | succ d ih =>
    intro i k h hk hj
    obtain ⟨k, rfl⟩ : ∃ x, k = x + 1 := ⟨k - 1, by omega⟩
    have w1 : wrap64 ((p : Int) + (i : Int)) = ((p + i : Nat) : Int) := w_of _ _ (by omega) (by omega)
    rw [selvageref17_at.l0, w1, if_pos (by omega), if_pos (by omega), if_pos (by omega), if_pos (by omega), rd_nat, rd_nat]
    by_cases e : (l.getD i ByteArray.empty).toList = (old.getD (p + i) ByteArray.empty).toList
    · rw [if_pos e.symm, w_of (i + 1) _ (by omega) (by omega)]
      refine ih (i + 1) k (by omega) (by omega) (fun j h' => ?_)
      rcases Nat.lt_or_ge j i with c | c
      · exact hj j c
      · rw [show j = i by omega]; exact e
    · unfold atB
      rw [if_neg (fun x => e x.symm), decide_eq_false (fun hh => e (hh i (by omega)))]
theorem r_at (old l : List ByteArray) (p k : Nat) (hl : p + l.length ≤ old.length) (hb : old.length ≤ 4000000000) (hk : l.length + 2 ≤ k) : selvageref17_at.f k old (p : Int) l = some (atB old l p) := by
  obtain ⟨k, rfl⟩ : ∃ x, k = x + 1 := ⟨k - 1, by omega⟩
  unfold selvageref17_at.f
  rw [if_neg (by omega), w_of (p + l.length) _ (by omega) (by omega), decide_eq_false (by omega), selvageref17_at.j0, if_neg (by simp)]
  exact r_at_loop old l p hl hb l.length 0 k (by omega) (by omega) (fun j h' => by omega)
abbrev Near (M : Int → Bool) (near lo hi : Int) (r : Int × Bool) : Prop :=
  (r.2 = true → lo ≤ r.1 ∧ r.1 ≤ hi ∧ M r.1 = true ∧ ∀ x, lo ≤ x → x ≤ hi → M x = true → dist near r.1 < dist near x ∨ (dist near r.1 = dist near x ∧ r.1 ≤ x)) ∧
  (r.2 = false → ∀ x, lo ≤ x → x ≤ hi → M x = false)
theorem Near.one {M : Int → Bool} {near lo hi : Int} {r s : Int × Bool} (h : Near M near lo hi r) (k : Near M near lo hi s) : r.2 = s.2 ∧ (r.2 = true → r.1 = s.1) := by
  obtain ⟨r1, r2⟩ := r
  obtain ⟨s1, s2⟩ := s
  obtain ⟨h1, h2⟩ := h
  obtain ⟨k1, k2⟩ := k
  simp only at h1 h2 k1 k2 ⊢
  cases r2 with
  | true =>
    obtain ⟨a1, a2, a3, a4⟩ := h1 rfl
    cases s2 with
    | true =>
      obtain ⟨b1, b2, b3, b4⟩ := k1 rfl
      refine ⟨rfl, fun _ => ?_⟩
      have := a4 s1 b1 b2 b3
      have := b4 r1 a1 a2 a3
      omega
    | false => rw [k2 rfl r1 a1 a2] at a3; cases a3
  | false =>
    cases s2 with
    | true =>
      obtain ⟨b1, b2, b3, b4⟩ := k1 rfl
      rw [h2 rfl s1 b1 b2] at b3; cases b3
    | false => exact ⟨rfl, fun h => by cases h⟩
theorem near_at (mt : Int → Option Bool) (M : Int → Bool) (near lo hi : Int) (hm : ∀ q, lo ≤ q → q ≤ hi → mt q = some (M q)) (hn : -1000000000000 ≤ near ∧ near ≤ 1000000000000) (hlo : -1000000000000 ≤ lo) (hhi : hi ≤ 1000000000000) :
    ∀ (g : Nat) (d u : Int) (A B : Nat), d - lo + 1 ≤ A → hi - u + 1 ≤ B → A + B < g → d ≤ near → d ≤ hi → lo ≤ u → (u ≤ hi → near < u) → (-1000000000001 ≤ d) → u ≤ 1000000000001 → (∀ x, lo ≤ x → x ≤ hi → d < x → x < u → M x = false) →
      ∃ r, nearL mt near lo hi g d u = some r ∧ Near M near lo hi r
  | 0, d, u, A, B, _, _, h2, _, _, _, _, _, _, _ => by omega
  | g + 1, d, u, A, B, hA, hB, h2, hd, hdh, hlu, hu, hdl, huu, hx => by
    unfold nearL
    have wd : lo ≤ d → wrap64 (d - 1) = d - 1 := fun _ => w64' (i := d - 1) (by omega) (by omega)
    have wu : u ≤ hi → wrap64 (u + 1) = u + 1 := fun _ => w64' (i := u + 1) (by omega) (by omega)
    -- a step down, a step up
    have down : lo ≤ d → (∀ x, lo ≤ x → x ≤ hi → M x = true → dist near d < dist near x ∨ (dist near d = dist near x ∧ d ≤ x)) →
        ∃ r, ((mt d).bind fun b => if b = true then some (d, true) else nearL mt near lo hi g (wrap64 (d - 1)) u) = some r ∧ Near M near lo hi r := by
      intro h3 h4
      rw [hm d h3 hdh, Option.bind_some]
      cases hM : M d with
      | true => exact ⟨_, if_pos rfl, ⟨fun _ => ⟨h3, hdh, hM, h4⟩, fun h => by cases h⟩⟩
      | false =>
        rw [if_neg (by simp), wd h3]
        refine near_at mt M near lo hi hm hn hlo hhi g (d - 1) u (A - 1) B (by omega) hB (by omega) (by omega) (by omega) hlu hu (by omega) huu (fun x a b c e => ?_)
        rcases (by omega : x = d ∨ d < x) with c' | c'
        · rw [c']; exact hM
        · exact hx x a b c' e
    have up : u ≤ hi → (∀ x, lo ≤ x → x ≤ hi → M x = true → dist near u < dist near x ∨ (dist near u = dist near x ∧ u ≤ x)) →
        ∃ r, ((mt u).bind fun b => if b = true then some (u, true) else nearL mt near lo hi g d (wrap64 (u + 1))) = some r ∧ Near M near lo hi r := by
      intro h3 h4
      rw [hm u hlu h3, Option.bind_some]
      cases hM : M u with
      | true => exact ⟨_, if_pos rfl, ⟨fun _ => ⟨hlu, h3, hM, h4⟩, fun h => by cases h⟩⟩
      | false =>
        rw [if_neg (by simp), wu h3]
        have := hu h3
        refine near_at mt M near lo hi hm hn hlo hhi g d (u + 1) A (B - 1) hA (by omega) (by omega) hd hdh (by omega) (fun _ => by omega) hdl (by omega) (fun x a b c e => ?_)
        rcases (by omega : x = u ∨ x < u) with c' | c'
        · rw [c']; exact hM
        · exact hx x a b c c'
    have away : ∀ x, lo ≤ x → x ≤ hi → M x = true → x ≤ d ∨ u ≤ x := fun x a b c => by
      rcases (by omega : x ≤ d ∨ u ≤ x ∨ (d < x ∧ x < u)) with h | h | h
      · exact .inl h
      · exact .inr h
      · rw [hx x a b h.1 h.2] at c; cases c
    clear hA hB h2 hm
    by_cases c1 : hi < u
    · rw [if_pos c1]
      by_cases c2 : lo ≤ d
      · rw [if_pos c2]
        refine down c2 (fun x a b c => ?_)
        rcases away x a b c with e | e
        · rw [dist_le hd, dist_le (show x ≤ near by omega)]; omega
        · omega
      · rw [if_neg c2]
        refine ⟨_, rfl, ⟨fun h => (by cases h), fun _ x a b => ?_⟩⟩
        exact hx x a b (by omega) (by omega)
    · rw [if_neg c1]
      have hnu := hu (by omega)
      by_cases c2 : lo ≤ d
      · rw [if_pos c2, far_at near d (by omega) (by omega), Option.bind_some, far_at u near (by omega) (by omega), Option.bind_some, dist_comm u near, dist_le hd, dist_ge (show near ≤ u by omega)]
        by_cases c3 : near - d ≤ u - near
        · rw [if_pos c3]
          refine down c2 (fun x a b c => ?_)
          rcases away x a b c with e | e
          · rw [dist_le hd, dist_le (show x ≤ near by omega)]; omega
          · rw [dist_le hd, dist_ge (show near ≤ x by omega)]; omega
        · rw [if_neg c3]
          refine up (by omega) (fun x a b c => ?_)
          rcases away x a b c with e | e
          · rw [dist_ge (show near ≤ u by omega), dist_le (show x ≤ near by omega)]; omega
          · rw [dist_ge (show near ≤ u by omega), dist_ge (show near ≤ x by omega)]; omega
      · rw [if_neg c2]
        refine up (by omega) (fun x a b c => ?_)
        rcases away x a b c with e | e
        · omega
        · rw [dist_ge (show near ≤ u by omega), dist_ge (show near ≤ x by omega)]; omega
theorem p_near (mt : Int → Option Bool) (M : Int → Bool) (near lo hi : Int) (k n : Nat) (hm : ∀ q, lo ≤ q → q ≤ hi → mt q = some (M q)) (hn : -1000000000000 ≤ near ∧ near ≤ 1000000000000) (hlo : -1000000000000 ≤ lo) (hhi : hi ≤ 1000000000000)
    (hlh : lo ≤ hi) (hnn : hi - lo + 1 ≤ n) (hk : n + 1 < k) : ∃ r, nearF mt k near lo hi = some r ∧ Near M near lo hi r := by
  unfold nearF downF upF
  have wn : near < hi → wrap64 (near + 1) = near + 1 := fun _ => w64' (i := near + 1) (by omega) (by omega)
  have wh : wrap64 (hi + 1) = hi + 1 := w64' (i := hi + 1) (by omega) (by omega)
  by_cases c1 : lo ≤ near
  · rw [if_pos c1]
    by_cases c2 : near < hi
    · rw [if_pos c2, if_neg (by omega), wn c2]
      exact near_at mt M near lo hi hm hn hlo hhi k near (near + 1) (near - lo + 1).toNat (hi - near).toNat (by omega) (by omega) (by omega) (by omega) (by omega) (by omega) (by omega) (by omega) (by omega) (fun x a b c e => by omega)
    · rw [if_neg c2, wh]
      by_cases c3 : hi < near
      · rw [if_pos c3]
        exact near_at mt M near lo hi hm hn hlo hhi k hi (hi + 1) n 0 (by omega) (by omega) (by omega) (by omega) (by omega) (by omega) (by omega) (by omega) (by omega) (fun x a b c e => by omega)
      · rw [if_neg c3]
        exact near_at mt M near lo hi hm hn hlo hhi k near (hi + 1) n 0 (by omega) (by omega) (by omega) (by omega) (by omega) (by omega) (by omega) (by omega) (by omega) (fun x a b c e => by omega)
  · rw [if_neg c1, if_neg (by omega)]
    exact near_at mt M near lo hi hm hn hlo hhi k near lo 0 n (by omega) (by omega) (by omega) (by omega) (by omega) (by omega) (by omega) (by omega) (by omega) (fun x a b c e => by omega)
set_option maxHeartbeats 1000000 in
theorem r_place (old l : List ByteArray) (kk : Nat) (want frm : Int) (hb : old.length ≤ 1000000000) (hll : l.length ≤ old.length) (hkk : kk ≤ 1000000000) (hw : -1000000000000 ≤ want ∧ want ≤ 1000000000000) (K : Nat) (hK : l.length + 2 ≤ K) (d : Nat) :
    ∀ (p : Nat) (best : Int) (found : Bool) (g : Nat), p + d = old.length - l.length + 1 → frm ≤ (p : Int) → d < g → (-1000000000000 ≤ best ∧ best ≤ 1000000000000) → Near (fun q => atB old l (q + kk).toNat) want (frm - kk) ((p : Int) - 1 - kk) (best, found) →
      ∃ r, refP K old l (kk : Int) want g (p : Int) best found = some r ∧ Near (fun q => atB old l (q + kk).toNat) want (frm - kk) (((old.length - l.length : Nat) : Int) - kk) r := by
  induction d with
  | zero =>
    intro p best found g hp hf hg hbd hN
    have HN := Aside0.mk hN
    clear hN
    obtain ⟨g, rfl⟩ : ∃ x, g = x + 1 := ⟨g - 1, by omega⟩
    unfold refP
    rw [w_of (p + l.length) _ (by omega) (by omega), if_neg (by omega)]
    refine ⟨_, rfl, ?_⟩
    rw [show ((old.length - l.length : Nat) : Int) - kk = (p : Int) - 1 - kk by omega]
    exact HN.out
  | succ d ih =>
    intro p best found g hp hf hg hbd hN
    have HN := Aside0.mk hN
    clear hN
    obtain ⟨g, rfl⟩ : ∃ x, g = x + 1 := ⟨g - 1, by omega⟩
    unfold refP
    have wk : wrap64 ((p : Int) - (kk : Int)) = (p : Int) - (kk : Int) := by
      clear ih HN hbd hw hK
      exact w64' (i := (p : Int) - (kk : Int)) (by omega) (by omega)
    rw [wk]
    have hat := r_at old l p K (by omega) (by omega) hK
    rw [w_of (p + l.length) _ (by omega) (by omega), if_pos (by omega), w_of (p + 1) _ (by omega) (by omega), hat, Option.bind_some]
    clear wk hat
    have hq : ((p : Int) - kk + kk).toNat = p := by omega
    have hnext : ((p + 1 : Nat) : Int) - 1 - kk = (p : Int) - kk := by omega
    have N1 := Aside0.mk HN.out.1
    have N2 := Aside0.mk HN.out.2
    clear HN
    cases ha : atB old l p with
    | false =>
      rw [if_neg (by simp)]
      refine ih (p + 1) best found g (by omega) (by omega) (by omega) hbd ?_
      rw [hnext]
      refine ⟨fun h => ?_, fun h x a b => ?_⟩
      · obtain ⟨a1, a2, a3, a4⟩ := N1.out h
        simp only at a1 a2
        refine ⟨a1, by simp only; omega, a3, fun x a b c => ?_⟩
        rcases (by omega : x ≤ (p : Int) - 1 - kk ∨ x = (p : Int) - kk) with e | e
        · exact a4 x a e c
        · rw [e] at c; simp only [hq, ha] at c; cases c
      · rcases (by omega : x ≤ (p : Int) - 1 - kk ∨ x = (p : Int) - kk) with e | e
        · exact N2.out h x a e
        · rw [e]; simp only [hq, ha]
    | true =>
      rw [if_pos rfl]
      cases found with
      | false =>
        rw [if_neg (by simp)]
        refine ih (p + 1) ((p : Int) - kk) true g (by omega) (by omega) (by omega) (by omega) ?_
        rw [hnext]
        refine ⟨fun _ => ⟨by simp only; omega, by simp only; omega, by simp only [hq, ha], fun x a b c => ?_⟩, fun h => by cases h⟩
        rcases (by omega : x ≤ (p : Int) - 1 - kk ∨ x = (p : Int) - kk) with e | e
        · have := N2.out rfl x a e
          rw [this] at c; cases c
        · right; rw [e]; exact ⟨rfl, by simp only; omega⟩
      | true =>
        rw [if_pos rfl, r_far_at ((p : Int) - (kk : Int)) want (by omega) (by omega), Option.bind_some, r_far_at best want (by omega) (by omega), Option.bind_some]
        obtain ⟨a1, a2, a3, a4⟩ := N1.out rfl
        simp only at a1 a2
        by_cases c3 : dist ((p : Int) - kk) want < dist best want
        · rw [if_pos c3]
          refine ih (p + 1) ((p : Int) - kk) true g (by omega) (by omega) (by omega) (by omega) ?_
          rw [hnext]
          refine ⟨fun _ => ⟨by simp only; omega, by simp only; omega, by simp only [hq, ha], fun x a b c => ?_⟩, fun h => by cases h⟩
          rcases (by omega : x ≤ (p : Int) - 1 - kk ∨ x = (p : Int) - kk) with e | e
          · have := a4 x a e c
            simp only at this ⊢
            rw [dist_comm _ want, dist_comm best want] at c3
            omega
          · right; rw [e]; exact ⟨rfl, by simp only; omega⟩
        · rw [if_neg c3]
          refine ih (p + 1) best true g (by omega) (by omega) (by omega) hbd ?_
          rw [hnext]
          refine ⟨fun _ => ⟨a1, by simp only; omega, a3, fun x a b c => ?_⟩, fun h => by cases h⟩
          rcases (by omega : x ≤ (p : Int) - 1 - kk ∨ x = (p : Int) - kk) with e | e
          · exact a4 x a e c
          · simp only
            rw [e]
            rw [dist_comm _ want, dist_comm best want] at c3
            omega
end Go.Proofs.YtkoagpnoaibdjaaDoor.Pure
namespace Go.Proofs.YtkoagpnoaibdjaaDoor.Pure
open Go.RowKit Go.Proofs.YtkoagpnoaibdjaaDoor.Pp Go.Proofs.YtkoagpnoaibdjaaDoor.Ext Go.Proofs.YtkoagpnoaibdjaaDoorW.PrintWords Go.Proofs.YtkoagpnoaibdjaaDoorW.PrintLast Go.Proofs.YtkoagpnoaibdjaaDoorW.PrintMore
set_option linter.unusedVariables false
set_option linter.unusedSimpArgs false
def sought (rows : List Row) (n : Nat) : List ByteArray := oldS (leftR rows n)
def skipped (rows : List Row) (n : Nat) : Nat := min (behN rows) n
structure Found (old : List ByteArray) (rows : List Row) (frm near : Int) (F : Nat) (r : Int × Int × Bool) (n : Nat) : Prop where
  fuzz : r.2.1 = (n : Int)
  le : n ≤ F
  fits : (sought rows n).length ≤ old.length
  near : Near (fun q => atB old (sought rows n) (q + (skipped rows n : Int)).toNat) near (frm - (skipped rows n : Int)) (((old.length - (sought rows n).length : Nat) : Int) - (skipped rows n : Int)) (r.1, true)
theorem sought_eq (rows : List Row) (n : Nat) : sought rows n = oldS (leftR rows n) := rfl
theorem skipped_eq (rows : List Row) (n : Nat) : skipped rows n = min (behN rows) n := rfl
theorem skipped_le (rows : List Row) (n : Nat) : skipped rows n ≤ n := Nat.min_le_right _ _
theorem le3 {n d F : Nat} (h1 : n + (d + 1) = F + 1) (hF : F ≤ 3) : n ≤ 3 := by omega
attribute [local irreducible] skipped sought leftR oldS newS behN dist atB
theorem find_at (old : List ByteArray) (h : Hunk) (frm : Nat) (near : Int) (F : Nat) (hF : F ≤ 3) (hb : old.length ≤ 1048576) (hh : h.f5.length ≤ 1048576) (hc : behN h.f5 < h.f5.length) (hk : ∀ r ∈ h.f5, r.f0 = 1 ∨ r.f0 = 2 ∨ r.f0 = 3)
    (hn : -1000000000000 ≤ near ∧ near ≤ 1000000000000) (hfo : frm ≤ old.length) (d : Nat) : ∀ n : Nat, n + d = F + 1 →
      ∃ r, (∃ K, ∀ k g, K ≤ k → d < g → findL k old h.f5 (frm : Int) near (F : Int) g (n : Int) = some r) ∧ (∃ K, ∀ k g, K ≤ k → d < g → refFindL k old h (frm : Int) near (F : Int) g (n : Int) = some r) ∧ (r.2.2 = true → ∃ m, Found old h.f5 (frm : Int) near F r m) := by
  have hF3 : atMost3 (F : Int) = (F : Int) := by unfold atMost3; rw [if_neg (by omega)]
  have hF4 : atM3 (F : Int) = (F : Int) := by unfold atM3; rw [if_neg (by omega)]
  induction d with
  | zero =>
    intro n h1
    refine ⟨(0, 0, false), ⟨0, fun k g _ hg => ?_⟩, ⟨0, fun k g _ hg => ?_⟩, fun h => by cases h⟩
    · obtain ⟨g, rfl⟩ : ∃ x, g = x + 1 := ⟨g - 1, by omega⟩
      rw [findL, hF3, if_neg (by omega)]
    · obtain ⟨g, rfl⟩ : ∃ x, g = x + 1 := ⟨g - 1, by omega⟩
      rw [refFindL, hF4, if_neg (by omega)]
  | succ d ih =>
    intro n h1
    obtain ⟨r', ⟨K1, hK1⟩, ⟨K2, hK2⟩, hr'⟩ := ih (n + 1) (by omega)
    have hrl := leftR_le h.f5 n
    have hsl := oldS_le (leftR h.f5 n)
    obtain ⟨K3, hK3⟩ := p_sides2 (leftR h.f5 n) (by omega)
    obtain ⟨K4, hK4⟩ := r_left h n hc (by omega)
    obtain ⟨K5, hK5⟩ := r_oldS (leftR h.f5 n) (by omega) (fun r hr => hk r (leftR_mem _ _ r hr))
    have wn : wrap64 ((n : Int) + 1) = ((n + 1 : Nat) : Int) := w_of (n + 1) _ (by omega) (by omega)
    have hL : sought h.f5 n = oldS (leftR h.f5 n) := sought_eq _ _
    obtain ⟨L, hLe⟩ : ∃ L, L = sought h.f5 n := ⟨_, rfl⟩
    rw [← hL, ← hLe] at hsl
    have hsk : skipped h.f5 n = min (behN h.f5) n := skipped_eq _ _
    obtain ⟨kk, hke⟩ : ∃ x, x = skipped h.f5 n := ⟨_, rfl⟩
    have hkk : kk ≤ 3 := by rw [hke]; exact Nat.le_trans (skipped_le _ _) (le3 h1 hF)
    have hpl : leftF h.f5 (n : Int) = some (leftR h.f5 n, (kk : Int)) := by rw [p_left h.f5 n hc (by omega), hke, hsk]
    -- the two steps
    have pstep : ∀ k g, K3 ≤ k → findL k old h.f5 (frm : Int) near (F : Int) (g + 1) (n : Int) =
        if wrap64 ((old.length : Int) - (L.length : Int)) < (frm : Int) then findL k old h.f5 (frm : Int) near (F : Int) g ((n + 1 : Nat) : Int)
        else (nearF (matchF k L old (kk : Int)) k near (wrap64 ((frm : Int) - (kk : Int))) (wrap64 (wrap64 ((old.length : Int) - (L.length : Int)) - (kk : Int)))).bind fun z =>
          if z.2 = true then some (z.1, (n : Int), true) else findL k old h.f5 (frm : Int) near (F : Int) g ((n + 1 : Nat) : Int) := by
      intro k g hk3
      have h3 : apply_sides.f k (leftR h.f5 n) = some (oldS (leftR h.f5 n), newS (leftR h.f5 n)) := hK3 k hk3
      rw [findL, hF3, if_pos (by omega), hpl, Option.bind_some, h3, Option.bind_some, wn, hLe, hL]
    have rstep : ∀ k g, K4 ≤ k → K5 ≤ k → refFindL k old h (frm : Int) near (F : Int) (g + 1) (n : Int) =
        (refP k old L (kk : Int) near k (minF (frm : Int) (wrap64 ((old.length : Int) + 1))) 0 false).bind fun z =>
          if z.2 = true then some (z.1, (n : Int), true) else refFindL k old h (frm : Int) near (F : Int) g ((n + 1 : Nat) : Int) := by
      intro k g hk4 hk5
      have h4 : refLeftF k h (n : Int) = some (leftR h.f5 n, ((min (behN h.f5) n : Nat) : Int)) := hK4 k hk4
      have h5 : selvageref17_side.f k (leftR h.f5 n) 3 = some (oldS (leftR h.f5 n)) := hK5 k hk5
      rw [refFindL, hF4, if_pos (by omega), h4, Option.bind_some, h5, Option.bind_some, wn, hLe, hL, hke, hsk]
    have hmin : minF (frm : Int) (wrap64 ((old.length : Int) + 1)) = (frm : Int) := by
      rw [w_of (old.length + 1) _ (by omega) (by omega)]
      unfold minF; rw [if_neg (by omega)]
    rw [hmin] at rstep
    clear hmin hK3 hK4 hK5 hpl
    by_cases hlf : old.length < frm + L.length
    · -- no place at all
      refine ⟨r', ⟨K1 + K3, fun k g hk hg => ?_⟩, ⟨K2 + K4 + K5 + 1, fun k g hk hg => ?_⟩, hr'⟩
      · obtain ⟨g, rfl⟩ : ∃ x, g = x + 1 := ⟨g - 1, by omega⟩
        rw [pstep k g (by omega), w64' (i := (old.length : Int) - (L.length : Int)) (by omega) (by omega), if_pos (by omega)]
        exact hK1 k g (by omega) (by omega)
      · obtain ⟨g, rfl⟩ : ∃ x, g = x + 1 := ⟨g - 1, by omega⟩
        obtain ⟨k0, hk0⟩ : ∃ x, k = x + 1 := ⟨k - 1, by omega⟩
        have h0 : refP k old L (kk : Int) near k (frm : Int) 0 false = some (0, false) := by
          conv => lhs; arg 6; rw [hk0]
          rw [refP, w_of (frm + L.length) _ (by omega) (by omega), if_neg (by omega)]
        rw [rstep k g (by omega) (by omega), h0, Option.bind_some, if_neg (by simp)]
        exact hK2 k g (by omega) (by omega)
    · have hLl : L.length ≤ old.length := by omega
      have w1 : wrap64 ((old.length : Int) - (L.length : Int)) = ((old.length - L.length : Nat) : Int) := w_of _ _ (by omega) (by omega)
      have w2 : wrap64 ((frm : Int) - (kk : Int)) = (frm : Int) - (kk : Int) := w64' (i := (frm : Int) - (kk : Int)) (by omega) (by omega)
      have w3 : wrap64 (((old.length - L.length : Nat) : Int) - (kk : Int)) = ((old.length - L.length : Nat) : Int) - (kk : Int) := w64' (i := ((old.length - L.length : Nat) : Int) - (kk : Int)) (by omega) (by omega)
      have hP : ∀ k, old.length + L.length + 10 ≤ k → ∃ z, nearF (matchF k L old (kk : Int)) k near ((frm : Int) - (kk : Int)) (((old.length - L.length : Nat) : Int) - (kk : Int)) = some z ∧ Near (fun q => atB old L (q + (kk : Int)).toNat) near ((frm : Int) - (kk : Int)) (((old.length - L.length : Nat) : Int) - (kk : Int)) z := by
        intro k hk'
        refine p_near _ _ near _ _ k (old.length + 1) (fun q a b => ?_) hn (by omega) (by omega) (by omega) (by omega) (by omega)
        exact match_at old L (kk : Int) q (q + (kk : Int)).toNat k (by omega) (by omega) (by omega) (by omega)
      have hR : ∀ k, old.length + L.length + 10 ≤ k → ∃ z, refP k old L (kk : Int) near k (frm : Int) 0 false = some z ∧ Near (fun q => atB old L (q + (kk : Int)).toNat) near ((frm : Int) - (kk : Int)) (((old.length - L.length : Nat) : Int) - (kk : Int)) z := by
        intro k hk'
        exact r_place old L kk near (frm : Int) (by omega) hLl (by omega) hn k (by omega) (old.length - L.length + 1 - frm) frm 0 false k (by omega) (by omega) (by omega) (by omega) ⟨fun h => (by cases h), fun _ x a b => by omega⟩
      obtain ⟨z0, hz0, hN0⟩ := hP (old.length + L.length + 10) (Nat.le_refl _)
      -- all of them are the one
      have hPz : ∀ k, old.length + L.length + 10 ≤ k → ∃ z, nearF (matchF k L old (kk : Int)) k near ((frm : Int) - (kk : Int)) (((old.length - L.length : Nat) : Int) - (kk : Int)) = some z ∧ z.2 = z0.2 ∧ (z.2 = true → z.1 = z0.1) := by
        intro k hk'
        obtain ⟨z, hz, hN⟩ := hP k hk'
        exact ⟨z, hz, Near.one hN hN0⟩
      have hRz : ∀ k, old.length + L.length + 10 ≤ k → ∃ z, refP k old L (kk : Int) near k (frm : Int) 0 false = some z ∧ z.2 = z0.2 ∧ (z.2 = true → z.1 = z0.1) := by
        intro k hk'
        obtain ⟨z, hz, hN⟩ := hR k hk'
        exact ⟨z, hz, Near.one hN hN0⟩
      obtain ⟨q0, b0⟩ := z0
      cases b0 with
      | true =>
        refine ⟨(q0, (n : Int), true), ⟨K3 + old.length + L.length + 10, fun k g hk hg => ?_⟩, ⟨K4 + K5 + old.length + L.length + 10, fun k g hk hg => ?_⟩, fun _ => ⟨n, ⟨rfl, by omega, by rw [← hLe]; exact hLl, by rw [← hLe, ← hke]; exact hN0⟩⟩⟩
        · obtain ⟨g, rfl⟩ : ∃ x, g = x + 1 := ⟨g - 1, by omega⟩
          obtain ⟨z, hz, e1, e2⟩ := hPz k (by omega)
          rw [pstep k g (by omega), w1, if_neg (by omega), w2, w3, hz, Option.bind_some, if_pos e1, e2 e1]
        · obtain ⟨g, rfl⟩ : ∃ x, g = x + 1 := ⟨g - 1, by omega⟩
          obtain ⟨z, hz, e1, e2⟩ := hRz k (by omega)
          rw [rstep k g (by omega) (by omega), hz, Option.bind_some, if_pos e1, e2 e1]
      | false =>
        refine ⟨r', ⟨K1 + K3 + old.length + L.length + 10, fun k g hk hg => ?_⟩, ⟨K2 + K4 + K5 + old.length + L.length + 10, fun k g hk hg => ?_⟩, hr'⟩
        · obtain ⟨g, rfl⟩ : ∃ x, g = x + 1 := ⟨g - 1, by omega⟩
          obtain ⟨z, hz, e1, e2⟩ := hPz k (by omega)
          rw [pstep k g (by omega), w1, if_neg (by omega), w2, w3, hz, Option.bind_some, if_neg (by rw [e1]; simp)]
          exact hK1 k g (by omega) (by omega)
        · obtain ⟨g, rfl⟩ : ∃ x, g = x + 1 := ⟨g - 1, by omega⟩
          obtain ⟨z, hz, e1, e2⟩ := hRz k (by omega)
          rw [rstep k g (by omega) (by omega), hz, Option.bind_some, if_neg (by rw [e1]; simp)]
          exact hK2 k g (by omega) (by omega)
end Go.Proofs.YtkoagpnoaibdjaaDoor.Pure
namespace Go.Proofs.YtkoagpnoaibdjaaDoor.Pure
open Go.RowKit Go.Proofs.YtkoagpnoaibdjaaDoor.Pp Go.Proofs.YtkoagpnoaibdjaaDoor.Ext Go.Proofs.YtkoagpnoaibdjaaDoorW.PrintWords Go.Proofs.YtkoagpnoaibdjaaDoorW.PrintLast Go.Proofs.YtkoagpnoaibdjaaDoorW.PrintMore
set_option linter.unusedVariables false
set_option linter.unusedSimpArgs false
def statedI (h : Hunk) : Int := if h.f1 = 0 then h.f0 else h.f0 - 1
theorem hunk_place {h : Hunk} (hk : hunkOk h = true) : 0 ≤ h.f0 ∧ h.f0 ≤ 2147483647 ∧ (0 < h.f0 ∨ h.f1 = 0) := by
  unfold hunkOk at hk
  simp only [Bool.and_eq_true] at hk
  have := of_decide_eq_true (show placeOk h.f0 h.f1 = true from hk.1.1.2)
  exact ⟨this.2.1, this.2.2.2.1, this.2.2.1⟩
theorem p_stated {h : Hunk} (hk : hunkOk h = true) : apply_stated.f h.f0 h.f1 h.f2 h.f3 h.f4 h.f5 = some (statedI h) := by
  have hp := hunk_place hk
  unfold apply_stated.f statedI
  split
  · rfl
  · rw [w64' (i := h.f0 - 1) (by omega) (by omega)]
theorem r_stated {h : Hunk} (hk : hunkOk h = true) : selvageref17_Stated.f h.f0 h.f1 h.f2 h.f3 h.f4 h.f5 = some (statedI h) := by
  have hp := hunk_place hk
  unfold selvageref17_Stated.f statedI
  split
  · rfl
  · rw [w64' (i := h.f0 - 1) (by omega) (by omega)]
theorem stated_in {h : Hunk} (hk : hunkOk h = true) : 0 ≤ statedI h ∧ statedI h ≤ 2147483647 := by
  have hp := hunk_place hk
  unfold statedI
  split <;> omega
theorem p_sum (a b : Int) (ha : -1000000000000 ≤ a ∧ a ≤ 1000000000000) (hb : -1000000000000 ≤ b ∧ b ≤ 1000000000000) : Ev (fun k => apply_sum.f k a b) (a + b) := by
  have w1 : wrap64 (a + b) = a + b := w64' (i := a + b) (by omega) (by omega)
  have hj : ∀ k, apply_sum.j0 (k + 1) a b false = some (a + b) := by
    intro k
    rw [apply_sum.j0, if_neg (by simp), w1]
    by_cases c : b < 0
    · rw [if_pos c, w64' (i := (-9223372036854775808) - b) (by omega) (by omega), if_neg (by omega)]
    · rw [if_neg c]
  refine Ev.step (f := fun _ => some (a + b)) (fun k => ?_) (Ev.pure _)
  unfold apply_sum.f
  by_cases c : b > 0
  · rw [if_pos c, w64' (i := 9223372036854775807 - b) (by omega) (by omega), decide_eq_false (by omega), hj]
  · rw [if_neg c, hj]
theorem r_sum (a b : Int) (ha : -1000000000000 ≤ a ∧ a ≤ 1000000000000) (hb : -1000000000000 ≤ b ∧ b ≤ 1000000000000) : Ev (fun k => selvageref17_add.f k a b) (a + b) := by
  have w1 : wrap64 (a + b) = a + b := w64' (i := a + b) (by omega) (by omega)
  have hj : ∀ k, selvageref17_add.j0 (k + 1) a b false = some (a + b) := by
    intro k
    rw [selvageref17_add.j0, if_neg (by simp), w1]
    by_cases c : b < 0
    · rw [if_pos c, w64' (i := (-9223372036854775808) - b) (by omega) (by omega), if_neg (by omega)]
    · rw [if_neg c]
  refine Ev.step (f := fun _ => some (a + b)) (fun k => ?_) (Ev.pure _)
  unfold selvageref17_add.f
  by_cases c : b > 0
  · rw [if_pos c, w64' (i := 9223372036854775807 - b) (by omega) (by omega), decide_eq_false (by omega), hj]
  · rw [if_neg c, hj]
theorem finds (old : List ByteArray) (h : Hunk) (frm : Nat) (off : Int) (F : Nat) (hF : F ≤ 3) (hs : Small h) (hk : hunkOk h = true) (hb : old.length ≤ 1048576) (ho : -100000000000 ≤ off ∧ off ≤ 100000000000) (hfo : frm ≤ old.length) :
    ∃ r, Ev (fun k => apply_Find.g k old h (frm : Int) off (F : Int)) r ∧ Ev (fun k => refFind.g k old h (frm : Int) off (F : Int)) r ∧ (r.2.2 = true → ∃ m, Found old h.f5 (frm : Int) (statedI h + off) F r m) := by
  have hst := stated_in hk
  have hrows := hs.rows
  obtain ⟨r, ⟨K1, h1⟩, ⟨K2, h2⟩, h3⟩ := find_at old h frm (statedI h + off) F hF hb hrows (hunk_change hk) (hunk_kinds hk) ⟨by omega, by omega⟩ hfo (F + 1) 0 (by omega)
  refine ⟨r, ?_, ?_, h3⟩
  · have h0 : atLeast0 (frm : Int) = (frm : Int) := by unfold atLeast0; rw [if_neg (by omega)]
    unfold apply_Find.g
    rw [p_hunk h hs, if_pos hk, p_stated hk, h0]
    refine Ev.same (fun k => if_pos (by omega)) ?_
    simp only [Option.bind_some, Option.isSome_none, Bool.false_eq_true, if_false]
    refine Ev.bind (p_sum (statedI h) off ⟨by omega, by omega⟩ ⟨by omega, by omega⟩) ⟨K1 + F + 2, fun k hk' => ?_⟩
    exact h1 k k (by omega) (by omega)
  · have h0 : atL0 (frm : Int) = (frm : Int) := by unfold atL0; rw [if_neg (by omega)]
    unfold refFind.g
    rw [h0]
    refine Ev.bind (r_hunk h hs) ?_
    rw [if_pos hk, r_stated hk]
    refine Ev.same (fun k => if_pos rfl) ?_
    simp only [Option.bind_some]
    refine Ev.bind (r_sum (statedI h) off ⟨by omega, by omega⟩ ⟨by omega, by omega⟩) ⟨K2 + F + 2, fun k hk' => ?_⟩
    exact h2 k k (by omega) (by omega)
end Go.Proofs.YtkoagpnoaibdjaaDoor.Pure
namespace Go.Proofs.YtkoagpnoaibdjaaDoor.Pure
open Go.RowKit Go.Proofs.YtkoagpnoaibdjaaDoor.Pp Go.Proofs.YtkoagpnoaibdjaaDoor.Ext Go.Proofs.YtkoagpnoaibdjaaDoorW.PrintWords Go.Proofs.YtkoagpnoaibdjaaDoorW.PrintLast Go.Proofs.YtkoagpnoaibdjaaDoorW.PrintMore
set_option linter.unusedVariables false
set_option linter.unusedSimpArgs false
abbrev Hit := S38
abbrev HitR := S39
def conv (x : Hit) : HitR := ⟨x.f0, x.f1, x.f2, x.f3⟩
def rowsSum (l : List Hunk) : Nat := (l.map fun h => h.f5.length).sum
theorem sk_le (rows : List Row) (n : Nat) : skipped rows n ≤ n := Nat.min_le_right _ _
theorem so_le (rows : List Row) (n : Nat) : (sought rows n).length ≤ rows.length := Nat.le_trans (oldS_le _) (leftR_le _ _)
theorem nw_le (rows : List Row) (n : Nat) : (newS (leftR rows n)).length ≤ rows.length := Nat.le_trans (newS_le _) (leftR_le _ _)
theorem so_eq (rows : List Row) (n : Nat) : oldS (leftR rows n) = sought rows n := rfl
theorem sk_eq (rows : List Row) (n : Nat) : ((min (behN rows) n : Nat) : Int) = (skipped rows n : Int) := rfl
theorem rowsSum_cons (h : Hunk) (t : List Hunk) : rowsSum (h :: t) = h.f5.length + rowsSum t := by unfold rowsSum; simp
theorem cutL_mem {α : Type} (l : List α) (a b : Int) : ∀ s ∈ cutL l a b, s ∈ l := fun s h => List.mem_of_mem_take (List.mem_of_mem_drop h)
theorem newS_mem (l : List Row) : ∀ s ∈ newS l, ∃ r ∈ l, r.f1 = s := fun s h => by
  unfold newS at h
  obtain ⟨r, h1, h2⟩ := List.mem_map.mp h
  exact ⟨r, (List.mem_filter.mp h1).1, h2⟩
theorem newS_small {h : Hunk} (hs : Small h) (n : Nat) : ∀ s ∈ newS (leftR h.f5 n), s.size ≤ 1048576 := fun s h' => by
  obtain ⟨r, h1, rfl⟩ := newS_mem _ s h'
  exact hs.texts r (leftR_mem _ _ r h1)
theorem num_q {q : Int} {kk frm n a : Nat} (p1 : (frm : Int) - (kk : Int) ≤ q) (p2 : q ≤ ((n - a : Nat) : Int) - (kk : Int)) (hk : kk ≤ 3) (hn : n ≤ 1048576) : -3 ≤ q ∧ q ≤ 1048576 := by omega
theorem num_f {q : Int} {kk frm P : Nat} (p1 : (frm : Int) - (kk : Int) ≤ q) (hP : q + (kk : Int) = (P : Int)) : frm ≤ P := by omega
theorem num_pa {q : Int} {kk n a P : Nat} (p2 : q ≤ ((n - a : Nat) : Int) - (kk : Int)) (g3 : a ≤ n) (hP : q + (kk : Int) = (P : Int)) : P + a ≤ n := by omega
theorem num_h4 {S x y z : Nat} (h : S + (x + y) ≤ 100000000) (hz : z ≤ x) : S ≤ 100000000 ∧ S + z + y ≤ 100000000 := by omega
theorem num_P {q : Int} {kk frm : Nat} (p1 : (frm : Int) - (kk : Int) ≤ q) : ∃ P : Nat, q + (kk : Int) = (P : Int) := ⟨(q + (kk : Int)).toNat, by omega⟩
theorem num_cl {c : Int} {P frm : Nat} (h : c = (P : Int) - (frm : Int)) (hf : frm ≤ P) (d : Nat) (hd : c = (d : Int)) : d = P - frm := by omega
theorem num_g {P n frm : Nat} (hf : frm ≤ P) (hP : P ≤ n) : 0 ≤ (frm : Int) ∧ (frm : Int) ≤ (P : Int) ∧ (P : Int) ≤ (n : Int) := by omega
theorem num_i {i l : Nat} (h8 : i + (l + 1) ≤ 100000000) : i + 1 + l ≤ 100000000 := by omega
theorem num_hits {h i l : Nat} (h6 : h ≤ i) (h8 : i + l ≤ 100000000) : h < 4398046511104 := by omega
theorem num_o {q st : Int} (hq : -3 ≤ q ∧ q ≤ 1048576) (hst : 0 ≤ st ∧ st ≤ 2147483647) : wrap64 (q - st) = q - st ∧ -100000000000 ≤ q - st ∧ q - st ≤ 100000000000 := ⟨w64' (by omega) (by omega), by omega, by omega⟩
theorem num_m {more : Int} {o c P frm S : Nat} (h5 : more = (o : Int) - (frm : Int)) (hc : c = P - frm) (hf : frm ≤ P) (hP : P ≤ 1048576) (hS : S ≤ 100000000) (ho : o ≤ frm + S) : wrap64 (((o + c : Nat) : Int) - (P : Int)) = more := by
  rw [w64' (i := ((o + c : Nat) : Int) - (P : Int)) (by omega) (by omega)]; omega
theorem num_n {more : Int} {o frm a b S : Nat} (h5 : more = (o : Int) - (frm : Int)) (hf : frm ≤ 1048576) (hS : S ≤ 100000000) (ho : o ≤ frm + S) (ha : a ≤ 1048576) (hb : b ≤ 1048576) : wrap64 (wrap64 (more + (b : Int)) - (a : Int)) = more + b - a := by
  rw [w64' (i := more + (b : Int)) (by omega) (by omega), w64' (i := more + (b : Int) - (a : Int)) (by omega) (by omega)]
theorem num_l {o c b P frm S : Nat} (hc : c = P - frm) (hP : P ≤ 1048576) (hS : S ≤ 100000000) (ho : o ≤ frm + S) (hf : frm ≤ 1048576) (hb : b ≤ 1048576) : o + c + b ≤ 8796093022208 := by omega
theorem num_s {o c b P a frm S : Nat} (hc : c = P - frm) (hf : frm ≤ P) (ho : o ≤ frm + S) : o + c + b ≤ P + a + (S + b) := by omega
theorem num_r {more : Int} {o c a b P frm : Nat} (h5 : more = (o : Int) - (frm : Int)) (hc : c = P - frm) (hf : frm ≤ P) : more + (b : Int) - (a : Int) = ((o + c + b : Nat) : Int) - ((P + a : Nat) : Int) := by omega
def Short (l : List ByteArray) : Prop := ∀ s ∈ l, s.size ≤ 1048576
theorem newS_short {h : Hunk} (hs : Small h) (n : Nat) : Short (newS (leftR h.f5 n)) := newS_small hs n
theorem short_at {l : List ByteArray} (h : Short l) : ∀ s ∈ l, s.size ≤ 1048576 := h
theorem short_nil : Short [] := fun s hs => by cases hs
theorem Short.app {l m : List ByteArray} (h : Short l) (k : Short m) : Short (l ++ m) := fun s hs => (List.mem_append.mp hs).elim (h s) (k s)
theorem Short.cut {l : List ByteArray} (h : Short l) (a b : Int) : Short (cutL l a b) := fun s hs => h s (cutL_mem _ _ _ s hs)
theorem conv_one (a b c d : Int) : List.map conv [(⟨a, b, c, d⟩ : Hit)] = [(⟨a, b, c, d⟩ : HitR)] := rfl
attribute [local irreducible] Short rowsSum statedI cutL conv skipped sought leftR oldS newS behN dist atB
set_option maxHeartbeats 4000000 in
theorem apply_at (old : List ByteArray) (F : Nat) (hF : F ≤ 3) (hb : old.length ≤ 1048576) (hO : Short old) : ∀ (l : List Hunk), (∀ h ∈ l, Small h ∧ hunkOk h = true) →
    ∀ (i frm S : Nat) (off more : Int) (out : List ByteArray) (hits : List Hit) (rej : List Int), frm ≤ old.length → (-100000000000 ≤ off ∧ off ≤ 100000000000) → out.length ≤ frm + S → S + rowsSum l ≤ 100000000 → more = (out.length : Int) - (frm : Int) → hits.length ≤ i → rej.length ≤ i → i + l.length ≤ 100000000 → Short out →
      ∃ (out' : List ByteArray) (hits' : List Hit) (rej' : List Int) (frm' : Nat), Ev (fun k => applyL k old (F : Int) l i (frm : Int) off out hits rej) (out', hits', rej', (frm' : Int)) ∧
        Ev (fun k => refApplyL k old (F : Int) l i (frm : Int) off more out (hits.map conv) rej) (out', hits'.map conv, rej', (frm' : Int)) ∧ frm' ≤ old.length ∧ out'.length ≤ frm' + 100000000 ∧ hits'.length ≤ i + l.length ∧ rej'.length ≤ i + l.length ∧ Short out'
  | [], _, i, frm, S, off, more, out, hits, rej, h1, _, h3, h4, _, h6, h7, _, h9 => ⟨out, hits, rej, frm, Ev.pure _, Ev.pure _, h1, by omega, by simpa using h6, by simpa using h7, h9⟩
  | h :: t, hall, i, frm, S, off, more, out, hits, rej, h1, h2, h3, h4, h5, h6, h7, h8, h9 => by
    obtain ⟨hs, hk⟩ := hall h List.mem_cons_self
    have ht : ∀ x ∈ t, Small x ∧ hunkOk x = true := fun x hx => hall x (List.mem_cons_of_mem _ hx)
    obtain ⟨⟨q, f, b⟩, hp, hr, hfnd⟩ := finds old h frm off F hF hs hk hb h2 h1
    have hsum := rowsSum_cons h t
    rw [hsum] at h4
    simp only [List.length_cons] at h8 ⊢
    cases b with
    | false =>
      obtain ⟨o', hi', re', fr', e1, e2, e3, e4, e5, e6, e7⟩ := apply_at old F hF hb hO t ht (i + 1) frm S off more out hits (rej ++ [(i : Int)]) h1 h2 h3 (by omega) h5 (by omega) (by simp; omega) (by omega) h9
      refine ⟨o', hi', re', fr', ?_, ?_, e3, e4, by omega, by omega, e7⟩
      · unfold applyL
        refine Ev.bind hp (Ev.same (fun k => if_neg (by simp)) (Ev.same (fun k => if_pos (by omega)) e1))
      · unfold refApplyL
        refine Ev.bind hr (Ev.same (fun k => if_neg (by simp)) (Ev.same (fun k => if_pos (by omega)) e2))
    | true =>
      obtain ⟨n, ⟨g1, g2, g3, g4⟩⟩ := hfnd rfl
      simp only at g1 g4
      subst g1
      obtain ⟨p1, p2, _, _⟩ := g4.1 rfl
      simp only at p1 p2
      clear hfnd g4
      have HP_ := Aside0.mk hp
      have HR_ := Aside0.mk hr
      clear hp hr
      have hsk := sk_le h.f5 n
      have hsl := so_le h.f5 n
      have hnl := nw_le h.f5 n
      have hst := stated_in hk
      have hrw := hs.rows
      have hsB : Short (newS (leftR h.f5 n)) := newS_short hs n
      obtain ⟨kk, hkk⟩ : ∃ x, x = skipped h.f5 n := ⟨_, rfl⟩
      obtain ⟨A, hA⟩ : ∃ x, x = sought h.f5 n := ⟨_, rfl⟩
      obtain ⟨B, hB⟩ : ∃ x, x = newS (leftR h.f5 n) := ⟨_, rfl⟩
      have hk3 : kk ≤ 3 := by rw [hkk]; exact Nat.le_trans hsk (Nat.le_trans g2 hF)
      rw [← hkk] at p1 p2 hsk
      rw [← hA] at p2 hsl g3
      rw [← hB] at hnl
      obtain ⟨P, hP⟩ := num_P p1
      have hfP : frm ≤ P := num_f p1 hP
      have hPA : P + A.length ≤ old.length := num_pa p2 g3 hP
      have hPb : P ≤ old.length := Nat.le_trans (Nat.le_add_right _ _) hPA
      have hPm : P ≤ 1048576 := Nat.le_trans hPb hb
      have hfm : frm ≤ 1048576 := Nat.le_trans h1 hb
      have hAm : A.length ≤ 1048576 := Nat.le_trans hsl hrw
      have hBm : B.length ≤ 1048576 := Nat.le_trans hnl hrw
      have hG := num_g hfP hPb
      have wP : wrap64 (q + (kk : Int)) = (P : Int) := w_of P _ hP (Nat.le_trans hPm (by decide))
      have hcl : (cutL old (frm : Int) (P : Int)).length = P - frm := num_cl (cutL_length old (frm : Int) (P : Int) hG.1 hG.2.1 hG.2.2) hfP _ rfl
      have wF : wrap64 ((P : Int) + (A.length : Int)) = ((P + A.length : Nat) : Int) := w_of _ _ (Int.natCast_add _ _).symm (Nat.le_trans hPA (Nat.le_trans hb (by decide)))
      obtain ⟨st, hste⟩ : ∃ x, x = statedI h := ⟨_, rfl⟩
      rw [← hste] at hst
      have hq := num_q p1 p2 hk3 hb
      obtain ⟨wO, wO2⟩ := num_o hq hst
      obtain ⟨C, hC⟩ : ∃ C, C = cutL old (frm : Int) (P : Int) := ⟨_, rfl⟩
      rw [← hC] at hcl
      obtain ⟨hS, hl4⟩ := num_h4 h4 hnl
      have wM : wrap64 (((out ++ C).length : Int) - (P : Int)) = more := by rw [List.length_append]; exact num_m h5 hcl hfP hPm hS h3
      have wN : wrap64 (wrap64 (more + (B.length : Int)) - (A.length : Int)) = more + B.length - A.length := num_n h5 hfm hS h3 hAm hBm
      have hsh : Short (out ++ C ++ B) := (h9.app (by rw [hC]; exact hO.cut _ _)).app (by rw [hB]; exact hsB)
      have hlim : (out ++ C ++ B).length ≤ 8796093022208 := by
        rw [List.length_append, List.length_append]; exact num_l hcl hPm hS h3 hfm hBm
      have hl3 : (out ++ C ++ B).length ≤ P + A.length + (S + B.length) := by rw [List.length_append, List.length_append]; exact num_s hcl hfP h3
      have hl5 : more + (B.length : Int) - (A.length : Int) = ((out ++ C ++ B).length : Int) - ((P + A.length : Nat) : Int) := by rw [List.length_append, List.length_append]; exact num_r h5 hcl hfP
      obtain ⟨o', hi', re', fr', e1, e2, e3, e4, e5, e6, e7⟩ := apply_at old F hF hb hO t ht (i + 1) (P + A.length) (S + B.length) (q - st) (more + B.length - A.length) (out ++ C ++ B) (hits ++ [⟨(i : Int), wrap64 (wrap64 (q + 1) + more), q - st, (n : Int)⟩]) rej
        hPA wO2 hl3 hl4 hl5 (by rw [List.length_append]; exact Nat.add_le_add h6 (Nat.le_refl _)) (Nat.le_succ_of_le h7) (num_i h8) hsh
      have hpl : leftF h.f5 (n : Int) = some (leftR h.f5 n, (kk : Int)) := by rw [p_left h.f5 n (hunk_change hk) (by omega), sk_eq, hkk]
      refine ⟨o', hi', re', fr', ?_, ?_, e3, e4, by omega, by omega, e7⟩
      · unfold applyL
        refine Ev.bind HP_.out (Ev.same (fun k => if_pos rfl) ?_)
        simp only [hpl, Option.bind_some]
        refine Ev.bind (p_sides2 (leftR h.f5 n) (by have := leftR_le h.f5 n; omega)) ?_
        simp only [p_stated hk, ← hste, Option.bind_some, so_eq, ← hA, ← hB, wP, ← hC, wF, wO, wM]
        exact Ev.same (fun k => if_pos ⟨hG, hlim, num_hits h6 h8⟩) e1
      · unfold refApplyL
        refine Ev.bind HR_.out (Ev.same (fun k => if_pos rfl) ?_)
        refine Ev.bind (r_left h n (hunk_change hk) (by omega)) ?_
        have hkinds : ∀ r ∈ leftR h.f5 n, r.f0 = 1 ∨ r.f0 = 2 ∨ r.f0 = 3 := fun r hr => hunk_kinds hk r (leftR_mem _ _ r hr)
        refine Ev.bind (r_oldS (leftR h.f5 n) (by have := leftR_le h.f5 n; omega) hkinds) ?_
        refine Ev.bind (r_newS (leftR h.f5 n) (by have := leftR_le h.f5 n; omega) hkinds) ?_
        simp only [r_stated hk, ← hste, Option.bind_some, so_eq, sk_eq, ← hkk, ← hA, ← hB, wP, ← hC, wF, wO, wN]
        refine Ev.same (fun k => if_pos ⟨hG, hlim, by rw [List.length_map]; exact num_hits h6 h8⟩) ?_
        rw [List.map_append, conv_one] at e2
        exact e2
end Go.Proofs.YtkoagpnoaibdjaaDoor.Pure
namespace Go.Proofs.YtkoagpnoaibdjaaDoor.Pure
open Go.RowKit Go.Proofs.YtkoagpnoaibdjaaDoor.Pp Go.Proofs.YtkoagpnoaibdjaaDoor.Ext Go.Proofs.YtkoagpnoaibdjaaDoorW.PrintWords Go.Proofs.YtkoagpnoaibdjaaDoorW.PrintLast Go.Proofs.YtkoagpnoaibdjaaDoorW.PrintMore
set_option linter.unusedVariables false
set_option linter.unusedSimpArgs false
theorem p_bad : ∀ (l : List Hunk), (∀ h ∈ l, Small h) → ∀ i : Nat, ∃ r, findBad l i = some r ∧ (0 ≤ r ↔ l.all hunkOk = false)
  | [], _, i => ⟨-1, rfl, by simp⟩
  | h :: t, hs, i => by
    obtain ⟨r, e1, e2⟩ := p_bad t (fun x hx => hs x (List.mem_cons_of_mem _ hx)) (i + 1)
    unfold findBad
    rw [p_hunk h (hs h List.mem_cons_self), Option.bind_some, List.all_cons]
    cases hk : hunkOk h with
    | true => exact ⟨r, by rw [if_pos rfl]; exact (if_neg (by simp)).trans e1, by rw [e2, Bool.true_and]⟩
    | false => exact ⟨(i : Int), by simp, by simp⟩
theorem r_bad : ∀ (l : List Hunk), (∀ h ∈ l, Small h) → Ev (fun k => refBadL k l) (!l.all hunkOk)
  | [], _ => Ev.pure _
  | h :: t, hs => by
    unfold refBadL
    refine Ev.bind (r_hunk h (hs h List.mem_cons_self)) ?_
    rw [List.all_cons]
    cases hk : hunkOk h with
    | true =>
      rw [Bool.true_and]
      exact Ev.same (fun k => if_pos (by simp)) (r_bad t (fun x hx => hs x (List.mem_cons_of_mem _ hx)))
    | false => exact Ev.same (fun k => if_neg (by simp)) (Ev.pure _)
def numE (e : Option Int) : Int := e.getD 0
structure In (old : List ByteArray) (l : List Hunk) : Prop where
  len : old.length ≤ 1048576
  texts : Short old
  hunks : ∀ h ∈ l, Small h
  count : l.length ≤ 1048576
  rows : rowsSum l ≤ 1048576
attribute [local irreducible] Short rowsSum statedI cutL conv skipped sought leftR oldS newS behN dist atB hunkOk validL
theorem apply_ev (old : List ByteArray) (l : List Hunk) (z : Int) (hi : In old l) : ∃ (out : List ByteArray) (hits : List Hit) (rej : List Int) (e : Option Int),
    Ev (fun k => apply_Apply.f k old l z) (out, hits, rej, e) ∧ Ev (fun k => selvageref17_Apply.f k old l z) (out, hits.map conv, rej, numE e) ∧ out.length ≤ 200000000 ∧ hits.length ≤ 1048576 ∧ rej.length ≤ 1048576 := by
  obtain ⟨hb, hO, hH, hc, hr⟩ := hi
  unfold apply_Apply.f selvageref17_Apply.f
  by_cases c1 : z < 0
  · exact ⟨[], [], [], some 1, Ev.same (fun k => if_pos c1) (Ev.pure _), Ev.same (fun k => if_pos c1) (Ev.pure _), by simp, by simp, by simp⟩
  by_cases c2 : 3 < z
  · exact ⟨[], [], [], some 1, Ev.same (fun k => if_neg c1) (Ev.same (fun k => if_pos c2) (Ev.pure _)), Ev.same (fun k => if_neg c1) (Ev.same (fun k => if_pos c2) (Ev.pure _)), by simp, by simp, by simp⟩
  have hOs : ∀ s ∈ old, s.size ≤ 4000000000 := fun s hs => by
    have : s.size ≤ 1048576 := short_at hO s hs
    omega
  have v1 := p_valid old (by omega) hOs
  have v2 := r_valid old (by omega) hOs
  cases hv : validL old with
  | false =>
    rw [hv] at v1 v2
    refine ⟨[], [], [], some 130, Ev.same (fun k => if_neg c1) (Ev.same (fun k => if_neg c2) (Ev.bind v1 (Ev.same (fun k => if_neg (by simp)) (Ev.pure _)))), Ev.same (fun k => if_neg c1) (Ev.same (fun k => if_neg c2) (Ev.bind v2 (Ev.same (fun k => if_neg (by simp)) (Ev.pure _)))), by simp, by simp, by simp⟩
  | true =>
    rw [hv] at v1 v2
    have hlim : l.length ≤ 9223372036854775807 := by omega
    obtain ⟨x, b1, b2⟩ := p_bad l hH 0
    have b3 := r_bad l hH
    cases ha : l.all hunkOk with
    | false =>
      rw [ha] at b2 b3
      refine ⟨[], [], [], some 100, Ev.same (fun k => if_neg c1) (Ev.same (fun k => if_neg c2) (Ev.bind v1 (Ev.same (fun k => if_pos rfl) (Ev.same (fun k => if_pos hlim) ?_)))), Ev.same (fun k => if_neg c1) (Ev.same (fun k => if_neg c2) (Ev.bind v2 (Ev.same (fun k => if_pos rfl) (Ev.same (fun k => if_pos hlim) (Ev.bind b3 (Ev.same (fun k => if_pos (by simp)) (Ev.pure _))))))), by simp, by simp, by simp⟩
      rw [b1]
      exact Ev.same (fun k => if_pos (b2.mpr rfl)) (Ev.pure _)
    | true =>
      rw [ha] at b2 b3
      have hall : ∀ h ∈ l, Small h ∧ hunkOk h = true := fun h hm => ⟨hH h hm, List.all_eq_true.mp ha h hm⟩
      obtain ⟨F, rfl⟩ : ∃ F : Nat, z = (F : Int) := ⟨z.toNat, by omega⟩
      obtain ⟨out, hits, rej, frm, e1, e2, e3, e4, e5, e6, e7⟩ := apply_at old F (by omega) hb hO l hall 0 0 0 0 0 [] [] [] (by omega) (by omega) (by simp) (by omega) (by simp) (by simp) (by simp) (by omega) short_nil
      have hcl : (cutL old (frm : Int) (old.length : Int)).length = old.length - frm := by
        have := cutL_length old (frm : Int) (old.length : Int) (by omega) (by omega) (by omega)
        omega
      obtain ⟨O, hOe⟩ : ∃ O, O = out ++ cutL old (frm : Int) (old.length : Int) := ⟨_, rfl⟩
      have hOl : O.length = out.length + (old.length - frm) := by rw [hOe, List.length_append, hcl]
      have hOsh : Short O := by rw [hOe]; exact e7.app (hO.cut _ _)
      have hO4 : ∀ s ∈ O, s.size ≤ 4000000000 := fun s hs => by
        have : s.size ≤ 1048576 := short_at hOsh s hs
        omega
      have v3 := p_valid O (by omega) hO4
      have v4 := r_valid O (by omega) hO4
      have hg : (0 ≤ (frm : Int) ∧ (frm : Int) ≤ (old.length : Int)) ∧ O.length ≤ 8796093022208 := ⟨⟨by omega, by omega⟩, by omega⟩
      cases hv2 : validL O with
      | true =>
        rw [hv2] at v3 v4
        refine ⟨O, hits, rej, none, Ev.same (fun k => if_neg c1) (Ev.same (fun k => if_neg c2) (Ev.bind v1 (Ev.same (fun k => if_pos rfl) (Ev.same (fun k => if_pos hlim) ?_)))), Ev.same (fun k => if_neg c1) (Ev.same (fun k => if_neg c2) (Ev.bind v2 (Ev.same (fun k => if_pos rfl) (Ev.same (fun k => if_pos hlim) (Ev.bind b3 (Ev.same (fun k => if_neg (by simp)) (Ev.bind e2 ?_))))))), by omega, by omega, by omega⟩
        · rw [b1]
          refine Ev.same (fun k => if_neg (fun hh => by have := b2.mp hh; cases this)) (Ev.bind e1 ?_)
          simp only [← hOe]
          exact Ev.same (fun k => if_pos hg) (Ev.bind v3 (Ev.same (fun k => if_pos rfl) (Ev.pure _)))
        · simp only [← hOe]
          exact Ev.same (fun k => if_pos hg) (Ev.bind v4 (Ev.same (fun k => if_pos rfl) (Ev.pure _)))
      | false =>
        rw [hv2] at v3 v4
        refine ⟨[], [], [], some 130, Ev.same (fun k => if_neg c1) (Ev.same (fun k => if_neg c2) (Ev.bind v1 (Ev.same (fun k => if_pos rfl) (Ev.same (fun k => if_pos hlim) ?_)))), Ev.same (fun k => if_neg c1) (Ev.same (fun k => if_neg c2) (Ev.bind v2 (Ev.same (fun k => if_pos rfl) (Ev.same (fun k => if_pos hlim) (Ev.bind b3 (Ev.same (fun k => if_neg (by simp)) (Ev.bind e2 ?_))))))), by simp, by simp, by simp⟩
        · rw [b1]
          refine Ev.same (fun k => if_neg (fun hh => by have := b2.mp hh; cases this)) (Ev.bind e1 ?_)
          simp only [← hOe]
          exact Ev.same (fun k => if_pos hg) (Ev.bind v3 (Ev.same (fun k => if_neg (by simp)) (Ev.pure _)))
        · simp only [← hOe]
          exact Ev.same (fun k => if_pos hg) (Ev.bind v4 (Ev.same (fun k => if_neg (by simp)) (Ev.pure _)))
end Go.Proofs.YtkoagpnoaibdjaaDoor.Pure
namespace Go.Proofs.YtkoagpnoaibdjaaDoor.Pure
open Go.RowKit Go.Proofs.YtkoagpnoaibdjaaDoor.Pp Go.Proofs.YtkoagpnoaibdjaaDoor.Ext Go.Proofs.YtkoagpnoaibdjaaDoorW.PrintWords Go.Proofs.YtkoagpnoaibdjaaDoorW.PrintLast Go.Proofs.YtkoagpnoaibdjaaDoorW.PrintMore
set_option linter.unusedVariables false
set_option linter.unusedSimpArgs false
theorem of_wf {x : Int} (h : (Lit.int IntKind.i64 x).wf = true) : -9223372036854775808 ≤ x ∧ x ≤ 9223372036854775807 := by
  simp only [Lit.wf, Bool.and_eq_true, decide_eq_true_eq] at h
  exact ⟨h.1, h.2⟩
theorem mem_sum {α : Type} (f : α → Nat) : ∀ (l : List α), ∀ x ∈ l, f x ≤ (l.map f).sum
  | [], _, h => by cases h
  | y :: t, x, h => by
    rw [List.map_cons, List.sum_cons]
    rcases List.mem_cons.mp h with rfl | h
    · omega
    · have := mem_sum f t x h; omega
theorem len_sum {α : Type} (f : α → Nat) (c : Nat) (hf : ∀ x, c ≤ f x) : ∀ (l : List α), c * l.length ≤ (l.map f).sum
  | [] => by simp
  | y :: t => by
    have h1 := len_sum f c hf t
    have h2 := hf y
    rw [List.map_cons, List.sum_cons, List.length_cons, Nat.mul_add]; omega
theorem wt_row (r : Row) : Ext.wt61 r = r.f1.size + 3 := by unfold Ext.wt61; omega
theorem wt_hunk (h : Hunk) : Ext.wt44 h = h.f4.size + (h.f5.map Ext.wt61).sum + 7 := by unfold Ext.wt44; omega
theorem rowsSum_le : ∀ l : List Hunk, rowsSum l ≤ (l.map Ext.wt44).sum
  | [] => by simp [rowsSum]
  | h :: t => by
    have h1 := rowsSum_le t
    have h2 := len_sum Ext.wt61 3 (fun r => by rw [wt_row]; omega) h.f5
    rw [rowsSum_cons, List.map_cons, List.sum_cons, wt_hunk]; omega
theorem small_of {h : Hunk} (hok : Ext.ok44 h) (hb : Ext.wt44 h ≤ 1048576) : Small h := by
  rw [wt_hunk] at hb
  have h2 := len_sum Ext.wt61 3 (fun r => by rw [wt_row]; omega) h.f5
  refine ⟨by omega, fun r hr => ?_, by omega, of_wf hok.1, of_wf hok.2.2.1⟩
  have := mem_sum Ext.wt61 h.f5 r hr
  rw [wt_row] at this; omega
theorem in_of (old : List ByteArray) (l : List Hunk) (hok : ∀ z ∈ l, Ext.ok44 z) (hb : ((old.map (·.size)).sum + old.length + 1) + ((l.map Ext.wt44).sum + 1) ≤ 1048576) : In old l := by
  have h1 := len_sum Ext.wt44 7 (fun h => by rw [wt_hunk]; omega) l
  have h2 := rowsSum_le l
  refine ⟨by omega, fun s hs => ?_, fun h hm => small_of (hok h hm) ?_, by omega, by omega⟩
  · have := mem_sum (fun s : ByteArray => s.size) old s hs; omega
  · have := mem_sum Ext.wt44 l h hm; omega
theorem same_loop (l : List ByteArray) (hl : l.length ≤ 4000000000) (d : Nat) : ∀ i : Nat, i + d = l.length → Ev (fun k => selvagelaw17_same.l0 k l l (i : Int)) true := by
  induction d with
  | zero =>
    intro i h
    exact Ev.step (f := fun _ => some true) (fun k => by rw [selvagelaw17_same.l0, if_neg (by omega)]) (Ev.pure _)
  | succ d ih =>
    intro i h
    have w1 : wrap64 ((i : Int) + 1) = ((i + 1 : Nat) : Int) := w_add i 1 (by omega)
    refine Ev.step (fun k => ?_) (ih (i + 1) (by omega))
    rw [selvagelaw17_same.l0, w1, if_pos (by omega), if_pos (by omega), if_pos (by omega), if_pos rfl]
theorem same_at (l : List ByteArray) (hl : l.length ≤ 4000000000) : Ev (fun k => selvagelaw17_same.f k l l) true :=
  Ev.same (fun k => by unfold selvagelaw17_same.f; rw [if_pos rfl]; rfl) (same_loop l hl l.length 0 (by omega))
theorem sure_60 : selvagelaw17_sure.f 60 = some true := by decide +kernel
theorem ev_sure : Ev (fun k => selvagelaw17_sure.f k) true := Ev.of (fun k => selvagelaw17_sure.mono k) sure_60
theorem num_ev (e : Option Int) : Ev (fun _ => selvagelaw17_num.f e) (numE e) := Ev.pure _
end Go.Proofs.YtkoagpnoaibdjaaDoor.Pure
