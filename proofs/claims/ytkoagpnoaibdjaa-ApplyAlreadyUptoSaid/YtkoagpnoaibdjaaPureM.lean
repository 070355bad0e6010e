/-
  Lines, in plain Lean: what both sides take for a line, for a list of lines.
-/
import Derived.Test.YtkoagpnoaibdjaaEPure
import Derived.Test.YtkoagpnoaibdjaaPp8
import Derived.Test.YtkoagpnoaibdjaaPp5
import Derived.Test.YtkoagpnoaibdjaaPp1
import Derived.Test.YtkoagpnoaibdjaaPp16
import Derived.Test.YtkoagpnoaibdjaaPp3
import Derived.Lib.IndexLaws
import Derived.Test.YtkoagpnoaibdjaaEFuncs
import Derived.Test.YtkoagpnoaibdjaaPp18
import Derived.Test.YtkoagpnoaibdjaaELeft
import Derived.Test.YtkoagpnoaibdjaaERefApply
import Derived.Test.YtkoagpnoaibdjaaPp6
import Derived.Test.YtkoagpnoaibdjaaPp19
import Derived.Test.YtkoagpnoaibdjaaEFind
import Derived.Laws.Bits64
import Derived.Test.YtkoagpnoaibdjaaPp2
import Derived.Test.YtkoagpnoaibdjaaPp4
import Derived.Test.YtkoagpnoaibdjaaPp10
import Derived.Test.YtkoagpnoaibdjaaESure
import Derived.Test.YtkoagpnoaibdjaaPp14
import Derived.Test.YtkoagpnoaibdjaaEKind
import Derived.Test.YtkoagpnoaibdjaaEAlready
import Derived.Test.YtkoagpnoaibdjaaPp21
namespace Go.Proofs.Ytkoagpnoaibdjaa.Pure
open Go.RowKit Go.Proofs.Ytkoagpnoaibdjaa.Pp Go.Proofs.Ytkoagpnoaibdjaa.Ext Go.Proofs.YtkoagpnoaibdjaaW.PrintWords Go.Proofs.YtkoagpnoaibdjaaW.PrintLast Go.Proofs.YtkoagpnoaibdjaaW.PrintMore
set_option linter.unusedVariables false
set_option linter.unusedSimpArgs false
theorem Ev.pure {α : Type} (v : α) : Ev (fun _ => some v) v := ⟨0, fun _ _ => rfl⟩
theorem Ev.same {α : Type} {F G : Nat → Option α} {v : α} (h : ∀ k, F k = G k) (hg : Ev G v) : Ev F v := Ev.congr h hg
theorem Ev.get {α : Type} {F : Nat → Option α} {v : α} (h : Ev F v) : ∃ k, F k = some v := Ev.rounds h
theorem data_len (s : ByteArray) : s.data.toList.length = s.size := by rw [Array.length_toList]; rfl
theorem w_of (n : Nat) (m : Int) (h : m = (n : Int)) (hn : n ≤ 9223372036854775807) : wrap64 m = (n : Int) := by rw [h]; exact w64' (by omega) (by omega)
theorem bt_at (s : ByteArray) (j : Nat) (h : j < s.size) : (bt s (j : Int) = 10) ↔ s.data.toList[j]? = some 10 := by
  have hl : j < s.data.toList.length := by rw [data_len]; exact h
  rw [bt_list, List.getD_eq_getElem?_getD, List.getElem?_eq_getElem hl, Option.getD_some]
  constructor
  · intro e; congr 1; exact UInt8.toNat_inj.mp (by have : (10 : UInt8).toNat = 10 := rfl; omega)
  · intro e; injection e with e; rw [e]; rfl
theorem ix (s : ByteArray) : (Lib.indexByte s.data.toList 10 = -1 ∧ ∀ j : Nat, j < s.size → bt s (j : Int) ≠ 10) ∨
    (∃ o : Nat, o < s.size ∧ Lib.indexByte s.data.toList 10 = (o : Int) ∧ bt s (o : Int) = 10 ∧ ∀ j : Nat, j < o → bt s (j : Int) ≠ 10) := by
  have hge := Lib.indexByte_ge s.data.toList 10
  rcases (by omega : Lib.indexByte s.data.toList 10 = -1 ∨ 0 ≤ Lib.indexByte s.data.toList 10) with h | h
  · exact .inl ⟨h, fun j hj e => Lib.indexByte_none h j ((bt_at s j hj).mp e)⟩
  · obtain ⟨o, ho⟩ : ∃ o : Nat, Lib.indexByte s.data.toList 10 = o := ⟨_, (Int.toNat_of_nonneg h).symm⟩
    obtain ⟨h1, h2⟩ := Lib.indexByte_some ho
    have hlt : o < s.size := by
      rw [← data_len]
      exact (List.getElem?_eq_some_iff.mp h1).1
    exact .inr ⟨o, hlt, ho, (bt_at s o hlt).mpr h1, fun j hj e => h2 j hj ((bt_at s j (by omega)).mp e)⟩
theorem ixf (s : ByteArray) : strings_IndexByte.f s 10 = some (Lib.indexByte s.data.toList 10) := rfl
def whole (s : ByteArray) : Bool := decide (0 < s.size ∧ bt s ((s.size : Int) - 1) = 10)
def body (s : ByteArray) : Bool := decide (∀ j, j < s.size - 1 → bt s ((j : Nat) : Int) ≠ 10)
def line (s : ByteArray) : Bool := decide (0 < s.size) && body s
def validL : List ByteArray → Bool
  | [] => true
  | s :: t => line s && (t.isEmpty || whole s) && validL t
theorem nil_size (s : ByteArray) : s.toList = ([] : List UInt8) ↔ ¬ 0 < s.size := by rw [toList_nil]; omega
theorem drop_by {α : Type} (l : List α) (d : α) (i : Nat) (h : i < l.length) : l.drop i = l.getD i d :: l.drop (i + 1) := by
  rw [List.getD_eq_getElem?_getD, List.getElem?_eq_getElem h]
  exact List.drop_eq_getElem_cons h
theorem drop_empty {α : Type} (l : List α) (n : Nat) : (l.drop n).isEmpty = decide (l.length ≤ n) := by
  by_cases h : l.length ≤ n
  · rw [List.drop_of_length_le h, decide_eq_true h]; rfl
  · rw [decide_eq_false h]
    cases hd : l.drop n with
    | nil => have := congrArg List.length hd; rw [List.length_drop] at this; simp at this; omega
    | cons a b => rfl
theorem ask (s : ByteArray) (hs : s.size ≤ 4000000000) (more : Bool) (P : Prop) [Decidable P] (hP : P ↔ more = true) (F : Option Bool) (r : Bool) (hF : F = some r) :
    ((strings_IndexByte.f s 10).bind fun t111 => (if s.toList = ([] : List UInt8) then (some false) else (if t111 ≥ 0 then (if t111 < (wrap64 ((s.size : Int) - 1)) then (some false) else (if t111 < 0 then (if P then (some false) else F) else F)) else (if t111 < 0 then (if P then (some false) else F) else F)))) =
      some (line s && ((!more) || whole s) && r) := by
  rw [ixf, Option.bind_some]
  by_cases h0 : 0 < s.size
  · rw [if_neg (by rw [nil_size]; omega), w64' (by omega) (by omega)]
    have hl0 : decide (0 < s.size) = true := decide_eq_true h0
    rcases ix s with ⟨hx, hn⟩ | ⟨o, ho, hx, hb, hn⟩
    · rw [hx, if_neg (by omega), if_pos (by omega)]
      have hb : body s = true := decide_eq_true (fun j hj => hn j (by omega))
      have hw : whole s = false := decide_eq_false (fun hh => hn (s.size - 1) (by omega) (by rw [show ((s.size - 1 : Nat) : Int) = (s.size : Int) - 1 by omega]; exact hh.2))
      unfold line
      rw [hl0, hb, hw]
      cases more with
      | true => rw [if_pos (hP.mpr rfl)]; rfl
      | false => rw [if_neg (fun h => by have := hP.mp h; cases this), hF]; simp
    · rw [hx, if_pos (by omega)]
      by_cases hlt : (o : Int) < (s.size : Int) - 1
      · rw [if_pos hlt]
        have hb : body s = false := decide_eq_false (fun hh => hh o (by omega) hb)
        unfold line
        rw [hb]; simp
      · rw [if_neg hlt, if_neg (by omega), hF]
        have hb2 : body s = true := decide_eq_true (fun j hj => hn j (by omega))
        have hw : whole s = true := decide_eq_true ⟨h0, by rw [show (s.size : Int) - 1 = (o : Int) by omega]; exact hb⟩
        unfold line
        rw [hl0, hb2, hw]; simp
  · rw [if_pos (by rw [nil_size]; exact h0)]
    unfold line
    rw [decide_eq_false h0]; simp
theorem p_valid_at (l : List ByteArray) (hl : l.length ≤ 4000000000) (hs : ∀ s ∈ l, s.size ≤ 4000000000) (d : Nat) : ∀ i : Nat, i + d = l.length → Ev (fun k => lines_Valid.l0 k l l (l.length : Int) (i : Int)) (validL (l.drop i)) := by
  induction d with
  | zero =>
    intro i h
    rw [List.drop_of_length_le (by omega)]
    exact Ev.step (f := fun _ => some true) (fun k => by rw [lines_Valid.l0, if_neg (by omega)]) (Ev.pure _)
  | succ d ih =>
    intro i h
    have hi : i < l.length := by omega
    rw [drop_by l ByteArray.empty i hi]
    obtain ⟨s, hse⟩ : ∃ s, s = l.getD i ByteArray.empty := ⟨_, rfl⟩
    have hm : s ∈ l := by rw [hse, List.getD_eq_getElem?_getD, List.getElem?_eq_getElem hi]; exact List.getElem_mem hi
    obtain ⟨K, hK⟩ := ih (i + 1) (by omega)
    refine ⟨K + 1, fun k hk => ?_⟩
    obtain ⟨k, rfl⟩ : ∃ j, k = j + 1 := ⟨k - 1, by omega⟩
    show lines_Valid.l0 (k + 1) l l (l.length : Int) (i : Int) = some _
    rw [← hse, validL, lines_Valid.l0, if_pos (by omega), if_pos (by omega), if_pos (by omega), rd_nat, ← hse]
    rw [ask s (hs s hm) (!(l.drop (i + 1)).isEmpty) ((i : Int) < wrap64 ((l.length : Int) - 1)) ?_ _ (validL (l.drop (i + 1))) ?_, Bool.not_not]
    · rw [w64' (by omega) (by omega)]
      rw [drop_empty]
      simp only [Bool.not_eq_true', decide_eq_false_iff_not]
      omega
    · rw [w_of (i + 1) _ (by omega) (by omega)]
      exact hK k (by omega)
theorem p_valid (l : List ByteArray) (hl : l.length ≤ 4000000000) (hs : ∀ s ∈ l, s.size ≤ 4000000000) : Ev (fun k => lines_Valid.f k l) (validL l) := by
  have := p_valid_at l hl hs l.length 0 (by omega)
  rw [List.drop_zero] at this
  exact this
theorem r_body (l : List ByteArray) (i : Nat) (hi : i < l.length) (hl : l.length ≤ 4000000000) (s : ByteArray) (hse : s = l.getD i ByteArray.empty) (hs : s.size ≤ 4000000000) (r : Bool)
    (hr : Ev (fun k => selvageref01_Valid.l0 k l (wrap64 ((i : Int) + 1))) r) (d : Nat) : ∀ j : Nat, (j : Int) + d = max 0 ((s.size : Int) - 1) → (∀ x : Nat, x < j → bt s (x : Int) ≠ 10) →
    Ev (fun k => selvageref01_Valid.l1 k l (i : Int) (s.size : Int) (j : Int)) (line s && ((l.drop (i + 1)).isEmpty || whole s) && r) := by
  have he := drop_empty l (i + 1)
  induction d with
  | zero =>
    intro j hj hn
    have hb : body s = true := decide_eq_true (fun x hx => hn x (by omega))
    obtain ⟨K, hK⟩ := hr
    refine ⟨K + 1, fun k hk => ?_⟩
    obtain ⟨k, rfl⟩ : ∃ j, k = j + 1 := ⟨k - 1, by omega⟩
    have hKk : selvageref01_Valid.l0 k l (wrap64 ((i : Int) + 1)) = some r := hK k (by omega)
    show selvageref01_Valid.l1 (k + 1) l (i : Int) (s.size : Int) (j : Int) = some _
    rw [selvageref01_Valid.l1, w64' (i := (s.size : Int) - 1) (by omega) (by omega), w64' (i := (l.length : Int) - 1) (by omega) (by omega), if_neg (by omega), rd_nat, ← hse]
    unfold line
    rw [hb, he]
    by_cases h0 : 0 < s.size
    · rw [if_neg (by omega), decide_eq_true h0]
      by_cases hlast : l.length ≤ i + 1
      · rw [if_neg (by omega), hKk, decide_eq_true hlast]; simp
      · rw [if_pos (by omega), if_pos (by omega), if_pos (by omega), if_pos (by omega), if_pos (by omega), decide_eq_false hlast]
        by_cases hw : bt s ((s.size : Int) - 1) = 10
        · rw [if_pos hw, hKk, show whole s = true from decide_eq_true ⟨h0, hw⟩]; simp
        · rw [if_neg hw, show whole s = false from decide_eq_false (fun x => hw x.2)]; simp
    · rw [if_pos (by omega), decide_eq_false h0]; simp
  | succ d ih =>
    intro j hj hn
    by_cases hb : bt s (j : Int) = 10
    · refine Ev.step (f := fun _ => some (line s && ((l.drop (i + 1)).isEmpty || whole s) && r)) (fun k => ?_) (Ev.pure _)
      rw [selvageref01_Valid.l1, w64' (i := (s.size : Int) - 1) (by omega) (by omega), if_pos (by omega), if_pos (by omega), if_pos (by omega), if_pos (by omega), rd_nat, ← hse, if_pos (by omega), if_pos hb]
      have hb2 : body s = false := decide_eq_false (fun hh => hh j (by omega) hb)
      unfold line
      rw [hb2]; simp
    · refine Ev.step (fun k => ?_) (ih (j + 1) (by omega) (fun x hx => by rcases Nat.lt_or_ge x j with h' | h'; exact hn x h'; rw [show x = j by omega]; exact hb))
      rw [selvageref01_Valid.l1, w64' (i := (s.size : Int) - 1) (by omega) (by omega), if_pos (by omega), if_pos (by omega), if_pos (by omega), if_pos (by omega), rd_nat, ← hse, if_pos (by omega), if_neg hb, w_of (j + 1) _ (by omega) (by omega)]
theorem r_valid_at (l : List ByteArray) (hl : l.length ≤ 4000000000) (hs : ∀ s ∈ l, s.size ≤ 4000000000) (d : Nat) : ∀ i : Nat, i + d = l.length → Ev (fun k => selvageref01_Valid.l0 k l (i : Int)) (validL (l.drop i)) := by
  induction d with
  | zero =>
    intro i h
    rw [List.drop_of_length_le (by omega)]
    exact Ev.step (f := fun _ => some true) (fun k => by rw [selvageref01_Valid.l0, if_neg (by omega)]) (Ev.pure _)
  | succ d ih =>
    intro i h
    have hi : i < l.length := by omega
    rw [drop_by l ByteArray.empty i hi]
    obtain ⟨s, hse⟩ : ∃ s, s = l.getD i ByteArray.empty := ⟨_, rfl⟩
    have hm : s ∈ l := by rw [hse, List.getD_eq_getElem?_getD, List.getElem?_eq_getElem hi]; exact List.getElem_mem hi
    have h2 := r_body l i hi hl s hse (hs s hm) (validL (l.drop (i + 1))) (Ev.same (G := fun k => selvageref01_Valid.l0 k l ((i + 1 : Nat) : Int)) (fun k => by rw [w_of (i + 1) _ (by omega) (by omega)]) (ih (i + 1) (by omega))) (max 0 ((s.size : Int) - 1)).toNat 0 (by omega) (fun x hx => by omega)
    rw [← hse, validL]
    refine Ev.step (fun k => ?_) h2
    rw [selvageref01_Valid.l0, if_pos (by omega), if_pos (by omega), rd_nat, ← hse]
    rfl
theorem r_valid (l : List ByteArray) (hl : l.length ≤ 4000000000) (hs : ∀ s ∈ l, s.size ≤ 4000000000) : Ev (fun k => selvageref01_Valid.f k l) (validL l) := by
  have := r_valid_at l hl hs l.length 0 (by omega)
  rw [List.drop_zero] at this
  exact this
theorem last_byte (s : ByteArray) (n : Nat) (hn : s.size = n + 1) : ∃ b : UInt8, s.data.toList = s.data.toList.take n ++ [b] ∧ bt s (n : Int) = (b.toNat : Int) := by
  have hl : n < s.data.toList.length := by rw [data_len]; omega
  refine ⟨s.data.toList[n], ?_, ?_⟩
  · have h1 := List.take_append_drop n s.data.toList
    rw [List.drop_eq_getElem_cons hl, List.drop_of_length_le (by rw [data_len]; omega)] at h1
    exact h1.symm
  · rw [bt_list, List.getD_eq_getElem?_getD, List.getElem?_eq_getElem hl]; rfl
theorem suffix_at (s : ByteArray) (hs : s.size ≤ 4000000000) : stringslite_HasSuffix.f s (⟨#[10]⟩ : ByteArray) = some (whole s) := by
  unfold stringslite_HasSuffix.f
  have h1 : (⟨#[10]⟩ : ByteArray).size = 1 := rfl
  rw [h1]
  by_cases h : 0 < s.size
  · obtain ⟨n, hn⟩ : ∃ n, s.size = n + 1 := ⟨s.size - 1, by omega⟩
    have w : wrap64 ((s.size : Int) - ((1 : Nat) : Int)) = (n : Int) := by rw [w64' (by omega) (by omega)]; omega
    obtain ⟨b, hb, hv⟩ := last_byte s n hn
    have hsuf : (s.extract n s.size).toList = [b] := by
      rw [Lib.toList_data, Lib.extract_data, hb, List.drop_left' (by rw [List.length_take, data_len]; omega), hn, show n + 1 - n = 1 by omega]; rfl
    have h10 : (⟨#[10]⟩ : ByteArray).toList = ([10] : List UInt8) := by rw [Lib.toList_data]
    rw [if_pos (by omega), w, if_pos (by omega), if_pos (by omega), Int.toNat_natCast, hsuf, h10]
    unfold whole
    rw [show (s.size : Int) - 1 = (n : Int) by omega, hv]
    congr 1
    by_cases e : b = 10
    · rw [e, decide_eq_true ⟨h, by rfl⟩]; rfl
    · have hne : ¬ (b.toNat : Int) = 10 := fun x => e (UInt8.toNat_inj.mp (by have : (10 : UInt8).toNat = 10 := rfl; omega))
      rw [decide_eq_false (fun x => hne x.2)]
      simp [e]
  · rw [if_neg (by omega)]
    unfold whole
    rw [decide_eq_false (fun x => h x.1)]
theorem whole_at (s : ByteArray) (hs : s.size ≤ 4000000000) : lines_Whole.f s = some (whole s) := by
  unfold lines_Whole.f strings_HasSuffix.f
  rw [suffix_at s hs]; rfl
theorem r_whole_at (s : ByteArray) (hs : s.size ≤ 4000000000) : selvageref01_Whole.f s = some (whole s) := by
  unfold selvageref01_Whole.f whole
  by_cases h : 0 < s.size
  · rw [if_pos (by omega), w64' (by omega) (by omega), if_pos (by omega), if_pos (by omega)]
    congr 1
    by_cases e : bt s ((s.size : Int) - 1) = 10
    · rw [e, decide_eq_true ⟨h, rfl⟩]; rfl
    · rw [decide_eq_false (fun x => e x.2)]
      exact beq_eq_false_iff_ne.mpr e
  · rw [if_neg (by omega), decide_eq_false (fun x => h x.1)]
def bare (s : ByteArray) : ByteArray := if whole s = true then s.extract 0 (s.size - 1) else s
theorem bare_at (s : ByteArray) (hs : s.size ≤ 4000000000) : lines_Bare.f s = some (bare s) := by
  unfold lines_Bare.f strings_TrimSuffix.f stringslite_TrimSuffix.f bare
  rw [suffix_at s hs, Option.bind_some]
  have h1 : (⟨#[10]⟩ : ByteArray).size = 1 := rfl
  rw [h1]
  cases hw : whole s with
  | false => rw [if_neg (by simp), if_neg (by simp)]; rfl
  | true =>
    have h0 := (of_decide_eq_true hw).1
    rw [if_pos rfl, if_pos rfl, w64' (by omega) (by omega), if_pos (by omega), if_pos (by omega), show ((s.size : Int) - ((1 : Nat) : Int)).toNat = s.size - 1 by omega]
    rfl
theorem contains_at (s : ByteArray) : strings_Contains.f s (⟨#[10]⟩ : ByteArray) = some (decide (∃ j, j < s.size ∧ bt s ((j : Nat) : Int) = 10)) := by
  show some (decide (0 ≤ Lib.indexByte s.data.toList 10)) = _
  congr 1
  rcases ix s with ⟨hx, hn⟩ | ⟨o, ho, hx, hb, hn⟩
  · rw [hx, decide_eq_false (by omega)]
    symm
    exact decide_eq_false (fun ⟨j, h1, h2⟩ => hn j h1 h2)
  · rw [hx, decide_eq_true (by omega)]
    symm
    exact decide_eq_true ⟨o, ho, hb⟩
theorem bare_body (s : ByteArray) (h0 : 0 < s.size) : (!decide (∃ j, j < (bare s).size ∧ bt (bare s) ((j : Nat) : Int) = 10)) = body s := by
  unfold bare body
  cases hw : whole s with
  | true =>
    rw [if_pos rfl]
    have hz : (s.extract 0 (s.size - 1)).size = s.size - 1 := by rw [ByteArray.size_extract]; omega
    rw [← decide_not]
    congr 1
    apply propext
    constructor
    · intro h j hj e
      exact h ⟨j, by rw [hz]; exact hj, by rw [bt_extract s 0 (s.size - 1) j (by omega), Nat.zero_add]; exact e⟩
    · rintro h ⟨j, hj, e⟩
      rw [hz] at hj
      rw [bt_extract s 0 (s.size - 1) j (by omega), Nat.zero_add] at e
      exact h j hj e
  | false =>
    rw [if_neg (by simp), ← decide_not]
    have hlast : bt s ((s.size : Int) - 1) ≠ 10 := fun e => (of_decide_eq_false hw) ⟨h0, e⟩
    congr 1
    apply propext
    constructor
    · intro h j hj e
      exact h ⟨j, by omega, e⟩
    · rintro h ⟨j, hj, e⟩
      by_cases hj2 : j < s.size - 1
      · exact h j hj2 e
      · exact hlast (by rw [show (s.size : Int) - 1 = (j : Int) by omega]; exact e)
theorem line_at (s : ByteArray) (hs : s.size ≤ 4000000000) : hunks_line.f s = some (line s) := by
  unfold hunks_line.f line
  by_cases h0 : 0 < s.size
  · rw [if_neg (by rw [nil_size]; omega), bare_at s hs, Option.bind_some, contains_at, Option.bind_some, bare_body s h0, decide_eq_true h0]; rfl
  · rw [if_pos (by rw [nil_size]; exact h0), decide_eq_false h0]; rfl
theorem r_line_at (s : ByteArray) (hs : s.size ≤ 4000000000) (d : Nat) : ∀ j : Nat, (j : Int) + d = max 0 ((s.size : Int) - 1) → (∀ x : Nat, x < j → bt s (x : Int) ≠ 10) → Ev (fun k => selvageref10_line.l0 k s (j : Int)) (line s) := by
  induction d with
  | zero =>
    intro j hj hn
    refine Ev.step (f := fun _ => some (line s)) (fun k => ?_) (Ev.pure _)
    have hb : body s = true := decide_eq_true (fun x hx => hn x (by omega))
    rw [selvageref10_line.l0, w64' (by omega) (by omega), if_neg (by omega)]
    unfold line
    rw [hb, Bool.and_true]
    congr 1
    by_cases h0 : 0 < s.size
    · rw [decide_eq_true h0]; exact bne_iff_ne.mpr (by rw [Ne, nil_size]; omega)
    · rw [decide_eq_false h0]; exact bne_eq_false_iff_eq.mpr (by rw [nil_size]; exact h0)
  | succ d ih =>
    intro j hj hn
    by_cases hb : bt s (j : Int) = 10
    · refine Ev.step (f := fun _ => some (line s)) (fun k => ?_) (Ev.pure _)
      rw [selvageref10_line.l0, w64' (by omega) (by omega), if_pos (by omega), if_pos (by omega), if_pos (by omega), if_pos hb]
      have hb2 : body s = false := decide_eq_false (fun hh => hh j (by omega) hb)
      unfold line
      rw [hb2]; simp
    · refine Ev.step (fun k => ?_) (ih (j + 1) (by omega) (fun x hx => by rcases Nat.lt_or_ge x j with h' | h'; exact hn x h'; rw [show x = j by omega]; exact hb))
      rw [selvageref10_line.l0, w64' (i := (s.size : Int) - 1) (by omega) (by omega), if_pos (by omega), if_pos (by omega), if_pos (by omega), if_neg hb, w_of (j + 1) _ (by omega) (by omega)]
theorem r_line (s : ByteArray) (hs : s.size ≤ 4000000000) : Ev (fun k => selvageref10_line.f k s) (line s) :=
  r_line_at s hs (max 0 ((s.size : Int) - 1)).toNat 0 (by omega) (fun x hx => by omega)
end Go.Proofs.Ytkoagpnoaibdjaa.Pure
namespace Go.Proofs.Ytkoagpnoaibdjaa.Pure
open Go.RowKit Go.Proofs.Ytkoagpnoaibdjaa.Pp Go.Proofs.Ytkoagpnoaibdjaa.Ext Go.Proofs.YtkoagpnoaibdjaaW.PrintWords Go.Proofs.YtkoagpnoaibdjaaW.PrintLast Go.Proofs.YtkoagpnoaibdjaaW.PrintMore
set_option linter.unusedVariables false
set_option linter.unusedSimpArgs false
abbrev Row := S72
abbrev Hunk := S41
def isOld (r : Row) : Bool := r.f0 == 1 || r.f0 == 2
def isNew (r : Row) : Bool := r.f0 == 1 || r.f0 == 3
def good (r : Row) (e o : Bool) : Bool := (isOld r || isNew r) && line r.f1 && !(isOld r && e) && !(isNew r && o)
def rowsOk : List Row → Bool → Bool → Bool → Bool
  | [], _, _, ch => ch
  | r :: t, e, o, ch => if good r e o = true then rowsOk t (e || (isOld r && !whole r.f1)) (o || (isNew r && !whole r.f1)) (ch || (r.f0 != 1)) else false
def cntOld (l : List Row) : Nat := l.countP isOld
def cntNew (l : List Row) : Nat := l.countP isNew
theorem cntOld_le (l : List Row) : cntOld l ≤ l.length := List.countP_le_length
theorem cntNew_le (l : List Row) : cntNew l ≤ l.length := List.countP_le_length
theorem kinds (r : Row) : (r.f0 = 1 ∧ isOld r = true ∧ isNew r = true) ∨ (r.f0 = 2 ∧ isOld r = true ∧ isNew r = false) ∨ (r.f0 = 3 ∧ isOld r = false ∧ isNew r = true) ∨
    ((r.f0 ≠ 1 ∧ r.f0 ≠ 2 ∧ r.f0 ≠ 3) ∧ isOld r = false ∧ isNew r = false) := by
  by_cases h1 : r.f0 = 1
  · left; simp [isOld, isNew, h1]
  · by_cases h2 : r.f0 = 2
    · right; left; simp [isOld, isNew, h2]
    · by_cases h3 : r.f0 = 3
      · right; right; left; simp [isOld, isNew, h3]
      · right; right; right; simp [isOld, isNew, h1, h2, h3]
def placeOk (a n : Int) : Bool := decide (0 ≤ n ∧ 0 ≤ a ∧ (0 < a ∨ n = 0) ∧ a ≤ 2147483647 ∧ n ≤ 2147483647 - a)
def headOk (s : ByteArray) : Bool := decide (s.size ≤ 4096) && !decide (∃ j, j < s.size ∧ bt s ((j : Nat) : Int) = 10)
def hunkOk (h : Hunk) : Bool := rowsOk h.f5 false false false && decide (h.f1 = cntOld h.f5) && decide (h.f3 = cntNew h.f5) && placeOk h.f0 h.f1 && placeOk h.f2 h.f3 && headOk h.f4
theorem add_at (c : Int) (e : Bool) (s : ByteArray) (hs : s.size ≤ 4000000000) : hunks_side_add.f c e s = some (if e = true then (false, c, e) else (true, wrap64 (c + 1), !whole s)) := by
  unfold hunks_side_add.f
  cases e with
  | true => rfl
  | false => rw [if_neg (by simp), whole_at s hs, if_neg (by simp)]; rfl
theorem p_sides : ∀ (l : List Row) (c d : Nat) (e f ch : Bool), c + l.length ≤ 4000000000 → d + l.length ≤ 4000000000 → (∀ r ∈ l, r.f1.size ≤ 4000000000) →
    ∃ x, sidesF l c e d f ch = some x ∧ x.2.2 = rowsOk l e f ch ∧ (rowsOk l e f ch = true → x.1.1 = ((c + cntOld l : Nat) : Int) ∧ x.2.1.1 = ((d + cntNew l : Nat) : Int))
  | [], c, d, e, f, ch, _, _, _ => ⟨_, rfl, rfl, fun _ => ⟨rfl, rfl⟩⟩
  | r :: t, c, d, e, f, ch, hc, hd, hs => by
    have hr := hs r (List.mem_cons_self)
    have ht : ∀ r ∈ t, r.f1.size ≤ 4000000000 := fun x hx => hs x (List.mem_cons_of_mem _ hx)
    simp only [List.length_cons] at hc hd
    have wc : wrap64 ((c : Int) + 1) = ((c + 1 : Nat) : Int) := w_of (c + 1) _ (by omega) (by omega)
    have wd : wrap64 ((d : Int) + 1) = ((d + 1 : Nat) : Int) := w_of (d + 1) _ (by omega) (by omega)
    unfold sidesF rowsOk good
    rw [line_at _ hr]
    simp only [addIf, add_at _ _ _ hr, Option.bind_some]
    rcases kinds r with ⟨hk, h1, h2⟩ | ⟨hk, h1, h2⟩ | ⟨hk, h1, h2⟩ | ⟨hk, h1, h2⟩
    · rw [h1, h2, hk, if_neg (by omega), if_neg (by omega)]
      cases hl : line r.f1 with
      | false => exact ⟨_, by rw [if_neg (by simp)], by simp, by simp⟩
      | true =>
        cases e with
        | true => exact ⟨_, (by simp; rfl), by simp, by simp⟩
        | false =>
          cases f with
          | true => exact ⟨_, (by simp; rfl), by simp, by simp⟩
          | false =>
            obtain ⟨x, e1, e2, e3⟩ := p_sides t (c + 1) (d + 1) (!whole r.f1) (!whole r.f1) ch (by omega) (by omega) ht
            refine ⟨x, by simpa [wc, wd] using e1, by simpa using e2, fun h => ?_⟩
            have := e3 (by simpa using h)
            unfold cntOld cntNew at this ⊢
            simp only [List.countP_cons, h1, h2, Bool.false_eq_true, if_true, if_false, Nat.add_zero]
            exact ⟨this.1.trans (by congr 1; omega), this.2.trans (by congr 1; omega)⟩
    · rw [h1, h2, hk, if_neg (by omega), if_neg (by omega)]
      cases hl : line r.f1 with
      | false => exact ⟨_, by rw [if_neg (by simp)], by simp, by simp⟩
      | true =>
        cases e with
        | true => exact ⟨_, (by simp; rfl), by simp, by simp⟩
        | false =>
          obtain ⟨x, e1, e2, e3⟩ := p_sides t (c + 1) d (!whole r.f1) f true (by omega) (by omega) ht
          refine ⟨x, by simpa [wc] using e1, by simpa using e2, fun h => ?_⟩
          have := e3 (by simpa using h)
          unfold cntOld cntNew at this ⊢
          simp only [List.countP_cons, h1, h2, Bool.false_eq_true, if_true, if_false, Nat.add_zero]
          exact ⟨this.1.trans (by congr 1; omega), this.2⟩
    · rw [h1, h2, hk, if_neg (by omega), if_neg (by omega)]
      cases hl : line r.f1 with
      | false => exact ⟨_, by rw [if_neg (by simp)], by simp, by simp⟩
      | true =>
        cases f with
        | true => exact ⟨_, (by simp; rfl), by simp, by simp⟩
        | false =>
          obtain ⟨x, e1, e2, e3⟩ := p_sides t c (d + 1) e (!whole r.f1) true (by omega) (by omega) ht
          refine ⟨x, by simpa [wd] using e1, by simpa using e2, fun h => ?_⟩
          have := e3 (by simpa using h)
          unfold cntOld cntNew at this ⊢
          simp only [List.countP_cons, h1, h2, Bool.false_eq_true, if_true, if_false, Nat.add_zero]
          exact ⟨this.1, this.2.trans (by congr 1; omega)⟩
    · rw [h1, h2]
      by_cases c1 : r.f0 < 1
      · exact ⟨_, by rw [if_pos c1], by simp, by simp⟩
      · exact ⟨_, by rw [if_neg c1, if_pos (by omega)], by simp, by simp⟩
theorem p_place (a n : Int) (ha : -9223372036854775808 ≤ a ∧ a ≤ 9223372036854775807) : hunks_place.f a n = some (placeOk a n) := by
  unfold hunks_place.f placeOk
  by_cases h1 : n ≥ 0
  · by_cases h2 : a ≥ 0
    · rw [if_pos h1, if_pos h2]
      have hw : a ≤ 2147483647 → wrap64 (2147483647 - a) = 2147483647 - a := fun h => w64' (by omega) (by omega)
      by_cases h4 : a ≤ 2147483647
      · rw [hw h4]
        by_cases h3 : a > 0
        · rw [if_pos h3, if_pos h4]; congr 1; exact decide_eq_decide.mpr (by omega)
        · rw [if_neg h3]
          by_cases h5 : n = 0
          · rw [if_pos h5, if_pos h4]; congr 1; exact decide_eq_decide.mpr (by omega)
          · rw [if_neg h5]; congr 1; symm; exact decide_eq_false (by omega)
      · rw [if_neg h4, if_pos (by omega)]; congr 1; symm; exact decide_eq_false (by omega)
    · rw [if_pos h1, if_neg h2]; congr 1; symm; exact decide_eq_false (by omega)
  · rw [if_neg h1]; congr 1; symm; exact decide_eq_false (by omega)
structure Small (h : Hunk) : Prop where
  rows : h.f5.length ≤ 1048576
  texts : ∀ r ∈ h.f5, r.f1.size ≤ 1048576
  head : h.f4.size ≤ 1048576
  a : -9223372036854775808 ≤ h.f0 ∧ h.f0 ≤ 9223372036854775807
  b : -9223372036854775808 ≤ h.f2 ∧ h.f2 ≤ 9223372036854775807
theorem p_hunk (h : Hunk) (hs : Small h) : validF h = some (if hunkOk h = true then none else some 100) := by
  have h1 := hs.rows
  obtain ⟨x, e1, e2, e3⟩ := p_sides h.f5 0 0 false false false (by omega) (by omega) (fun r hr => by have := hs.texts r hr; omega)
  unfold validF hunks_Valid.f hunks_sides.f
  rw [if_pos (by omega)]
  rw [show (0 : Int) = ((0 : Nat) : Int) from rfl, e1, Option.map_some, Option.bind_some]
  simp only [e2]
  unfold hunkOk
  cases hr : rowsOk h.f5 false false false with
  | false => rw [if_neg (by simp)]; simp
  | true =>
    obtain ⟨e4, e5⟩ := e3 hr
    rw [Nat.zero_add] at e4 e5
    rw [if_pos rfl, e4, e5, p_place _ _ hs.a, p_place _ _ hs.b, contains_at]
    simp only [Option.bind_some, Bool.true_and]
    by_cases c1 : h.f1 = (cntOld h.f5 : Int)
    · by_cases c2 : h.f3 = (cntNew h.f5 : Int)
      · rw [if_pos c1.symm, if_pos c2.symm, decide_eq_true c1, decide_eq_true c2]
        cases placeOk h.f0 h.f1 with
        | false => simp
        | true =>
          cases placeOk h.f2 h.f3 with
          | false => simp
          | true =>
            unfold headOk
            by_cases c3 : h.f4.size ≤ 4096
            · rw [if_pos rfl, if_pos rfl, if_neg (by omega), decide_eq_true c3]
              cases decide (∃ j, j < h.f4.size ∧ bt h.f4 ((j : Nat) : Int) = 10) <;> simp
            · rw [if_pos rfl, if_pos rfl, if_pos (by omega), decide_eq_false c3]; simp
      · rw [if_pos c1.symm, if_neg (fun h => c2 h.symm), decide_eq_false c2]; simp
    · rw [if_neg (fun h => c1 h.symm), decide_eq_false c1]; simp
theorem r_old (r : Row) : selvageref10_old.f r.f0 r.f1 = some (isOld r) := by
  unfold selvageref10_old.f isOld
  by_cases h : r.f0 = 1
  · rw [if_pos h, h]; rfl
  · rw [if_neg h, show (r.f0 == 1) = false from beq_eq_false_iff_ne.mpr h, Bool.false_or]
theorem r_new (r : Row) : selvageref10_fresh.f r.f0 r.f1 = some (isNew r) := by
  unfold selvageref10_fresh.f isNew
  by_cases h : r.f0 = 1
  · rw [if_pos h, h]; rfl
  · rw [if_neg h, show (r.f0 == 1) = false from beq_eq_false_iff_ne.mpr h, Bool.false_or]
theorem rd_row (l : List Row) (i : Nat) : rd_T72 l ((i : Nat) : Int) = l.getD i z72 := by show l.getD ((i : Int)).toNat _ = _; simp
theorem r_counts_at (l : List Row) (hl : l.length ≤ 4000000000) (d : Nat) : ∀ (i a b : Nat), i + d = l.length → a ≤ i → b ≤ i → Ev (fun k => selvageref10_Counts.l0 k l a b (i : Int)) (((a + cntOld (l.drop i) : Nat) : Int), ((b + cntNew (l.drop i) : Nat) : Int)) := by
  induction d with
  | zero =>
    intro i a b h _ _
    rw [List.drop_of_length_le (by omega)]
    exact Ev.step (f := fun _ => some ((a : Int), (b : Int))) (fun k => by rw [selvageref10_Counts.l0, if_neg (by omega)]) (Ev.pure _)
  | succ d ih =>
    intro i a b h ha hb
    have hi : i < l.length := by omega
    rw [drop_by l z72 i hi]
    obtain ⟨r, hr⟩ : ∃ r, r = l.getD i z72 := ⟨_, rfl⟩
    have wi : wrap64 ((i : Int) + 1) = ((i + 1 : Nat) : Int) := w_of (i + 1) _ (by omega) (by omega)
    have wa : wrap64 ((a : Int) + 1) = ((a + 1 : Nat) : Int) := w_of (a + 1) _ (by omega) (by omega)
    have wb : wrap64 ((b : Int) + 1) = ((b + 1 : Nat) : Int) := w_of (b + 1) _ (by omega) (by omega)
    unfold cntOld cntNew
    rw [← hr, List.countP_cons, List.countP_cons]
    have hstep : ∀ k, selvageref10_Counts.l0 (k + 1) l a b (i : Int) = selvageref10_Counts.l0 k l ((a + (if isOld r = true then 1 else 0) : Nat) : Int) ((b + (if isNew r = true then 1 else 0) : Nat) : Int) ((i + 1 : Nat) : Int) := by
      intro k
      rw [selvageref10_Counts.l0, if_pos (by omega), if_pos (by omega), rd_row, ← hr, r_old, r_new, Option.bind_some, Option.bind_some, wi, wa, wb]
      cases isOld r <;> cases isNew r <;> simp
    have h2 := ih (i + 1) (a + (if isOld r = true then 1 else 0)) (b + (if isNew r = true then 1 else 0)) (by omega) (by split <;> omega) (by split <;> omega)
    unfold cntOld cntNew at h2
    rw [show a + ((l.drop (i + 1)).countP isOld + if isOld r = true then 1 else 0) = a + (if isOld r = true then 1 else 0) + (l.drop (i + 1)).countP isOld by omega,
      show b + ((l.drop (i + 1)).countP isNew + if isNew r = true then 1 else 0) = b + (if isNew r = true then 1 else 0) + (l.drop (i + 1)).countP isNew by omega]
    exact Ev.step hstep h2
theorem r_counts (l : List Row) (hl : l.length ≤ 4000000000) : Ev (fun k => selvageref10_Counts.f k l) ((cntOld l : Int), (cntNew l : Int)) := by
  have := r_counts_at l hl l.length 0 0 0 (by omega) (by omega) (by omega)
  rw [List.drop_zero, Nat.zero_add, Nat.zero_add] at this
  exact this
theorem r_part (k : Nat) (l : List Row) (e o ch : Bool) (i : Nat) (hi : (i : Int) + 1 ≤ 9223372036854775807) (r : Row) (hs : r.f1.size ≤ 4000000000) :
    selvageref10_rows.j1 (k + 1) l e o ch (i : Int) false r.f0 r.f1 = selvageref10_rows.l0 k l (e || (isOld r && !whole r.f1)) (o || (isNew r && !whole r.f1)) (ch || (r.f0 != 1)) ((i + 1 : Nat) : Int) := by
  rw [selvageref10_rows.j1, if_neg (by simp), r_whole_at _ hs, r_old, r_new, Option.bind_some, Option.bind_some, Option.bind_some, w_of (i + 1) _ (by omega) (by omega)]
  cases e <;> cases o <;> cases ch <;> cases whole r.f1 <;> cases isOld r <;> cases isNew r <;> simp
theorem r_rows_at (l : List Row) (hl : l.length ≤ 4000000000) (hs : ∀ r ∈ l, r.f1.size ≤ 4000000000) (d : Nat) : ∀ (i : Nat) (e o ch : Bool), i + d = l.length → Ev (fun k => selvageref10_rows.l0 k l e o ch (i : Int)) (rowsOk (l.drop i) e o ch) := by
  induction d with
  | zero =>
    intro i e o ch h
    rw [List.drop_of_length_le (by omega)]
    exact Ev.step (f := fun _ => some ch) (fun k => by rw [selvageref10_rows.l0, if_neg (by omega)]) (Ev.pure _)
  | succ d ih =>
    intro i e o ch h
    have hi : i < l.length := by omega
    rw [drop_by l z72 i hi]
    obtain ⟨r, hr⟩ : ∃ r, r = l.getD i z72 := ⟨_, rfl⟩
    have hm : r ∈ l := by rw [hr, List.getD_eq_getElem?_getD, List.getElem?_eq_getElem hi]; exact List.getElem_mem hi
    have hz := hs r hm
    rw [← hr, rowsOk]
    obtain ⟨K1, hK1⟩ := r_line r.f1 hz
    have hstep : ∀ k, K1 ≤ k → selvageref10_rows.l0 (k + 1) l e o ch (i : Int) = selvageref10_rows.j1 k l e o ch (i : Int) (!good r e o) r.f0 r.f1 := by
      intro k hk
      have hline : selvageref10_line.f k r.f1 = some (line r.f1) := hK1 k hk
      rw [selvageref10_rows.l0, if_pos (by omega), if_pos (by omega), rd_row, ← hr, r_old, r_new, hline]
      unfold good
      cases e <;> cases o <;> cases isOld r <;> cases isNew r <;> cases line r.f1 <;> simp
    cases hg : good r e o with
    | false =>
      refine ⟨K1 + 2, fun k hk => ?_⟩
      obtain ⟨k, rfl⟩ : ∃ j, k = j + 1 + 1 := ⟨k - 2, by omega⟩
      show selvageref10_rows.l0 (k + 1 + 1) l e o ch (i : Int) = some _
      rw [hstep _ (by omega), hg, if_neg (by simp), selvageref10_rows.j1, if_pos (by rfl)]
    | true =>
      obtain ⟨K2, hK2⟩ := ih (i + 1) (e || (isOld r && !whole r.f1)) (o || (isNew r && !whole r.f1)) (ch || (r.f0 != 1)) (by omega)
      refine ⟨K1 + K2 + 2, fun k hk => ?_⟩
      obtain ⟨k, rfl⟩ : ∃ j, k = j + 1 + 1 := ⟨k - 2, by omega⟩
      show selvageref10_rows.l0 (k + 1 + 1) l e o ch (i : Int) = some _
      rw [hstep _ (by omega), hg, if_pos rfl, Bool.not_true, r_part k l e o ch i (by omega) r hz]
      exact hK2 k (by omega)
theorem r_rows (l : List Row) (hl : l.length ≤ 4000000000) (hs : ∀ r ∈ l, r.f1.size ≤ 4000000000) : Ev (fun k => selvageref10_rows.f k l) (rowsOk l false false false) := by
  have := r_rows_at l hl hs l.length 0 false false false (by omega)
  rw [List.drop_zero] at this
  exact this
theorem r_start (a n : Int) (hn : 0 ≤ n ∧ n ≤ 4000000000) : selvageref10_start.f a n = some (placeOk a n) := by
  unfold selvageref10_start.f placeOk
  rw [w64' (i := 2147483647 - n) (by omega) (by omega)]
  by_cases h1 : n = 0
  · rw [if_pos h1]
    by_cases h2 : a ≥ 0
    · rw [if_pos h2]; congr 1; exact decide_eq_decide.mpr (by omega)
    · rw [if_neg h2]; congr 1; symm; exact decide_eq_false (by omega)
  · rw [if_neg h1]
    by_cases h2 : a ≥ 1
    · rw [if_pos h2]; congr 1; exact decide_eq_decide.mpr (by omega)
    · rw [if_neg h2]; congr 1; symm; exact decide_eq_false (by omega)
theorem r_head_at (h : Hunk) (hs : h.f4.size ≤ 4000000000) (d : Nat) : ∀ (j : Nat) (x : Bool), j + d = h.f4.size →
    Ev (fun k => selvageref10_Valid.l0 k x (j : Int) h.f0 h.f1 h.f2 h.f3 h.f4 h.f5) (if (x && !decide (∃ y, y < h.f4.size ∧ j ≤ y ∧ bt h.f4 ((y : Nat) : Int) = 10)) = true then 0 else 100) := by
  induction d with
  | zero =>
    intro j x hj
    have hd : decide (∃ y, y < h.f4.size ∧ j ≤ y ∧ bt h.f4 ((y : Nat) : Int) = 10) = false := decide_eq_false (fun ⟨y, h1, h2, _⟩ => by omega)
    rw [hd]
    refine Ev.step (f := fun _ => some (if x = true then 0 else 100)) (fun k => ?_) ?_
    · rw [selvageref10_Valid.l0, if_neg (by omega)]
      cases x <;> rfl
    · cases x <;> exact Ev.pure _
  | succ d ih =>
    intro j x hj
    have wj : wrap64 ((j : Int) + 1) = ((j + 1 : Nat) : Int) := w_of (j + 1) _ (by omega) (by omega)
    cases x with
    | false =>
      have := ih (j + 1) false (by omega)
      rw [Bool.false_and] at this ⊢
      refine Ev.step (fun k => ?_) this
      rw [selvageref10_Valid.l0, if_pos (by omega), if_neg (by simp), wj]
    | true =>
      have := ih (j + 1) (bt h.f4 (j : Int) != 10) (by omega)
      have he : (true && !decide (∃ y, y < h.f4.size ∧ j ≤ y ∧ bt h.f4 ((y : Nat) : Int) = 10)) = ((bt h.f4 (j : Int) != 10) && !decide (∃ y, y < h.f4.size ∧ j + 1 ≤ y ∧ bt h.f4 ((y : Nat) : Int) = 10)) := by
        rw [Bool.true_and]
        by_cases hb : bt h.f4 (j : Int) = 10
        · rw [show (bt h.f4 (j : Int) != 10) = false from bne_eq_false_iff_eq.mpr hb, decide_eq_true ⟨j, by omega, Nat.le_refl _, hb⟩]; rfl
        · rw [show (bt h.f4 (j : Int) != 10) = true from bne_iff_ne.mpr hb, Bool.true_and]
          congr 1
          apply decide_eq_decide.mpr
          constructor
          · rintro ⟨y, h1, h2, h3⟩
            rcases Nat.lt_or_ge j y with c | c
            · exact ⟨y, h1, c, h3⟩
            · exact absurd h3 (by rw [show y = j by omega]; exact hb)
          · rintro ⟨y, h1, h2, h3⟩
            exact ⟨y, h1, by omega, h3⟩
      rw [he]
      refine Ev.step (fun k => ?_) this
      rw [selvageref10_Valid.l0, if_pos (by omega), if_pos rfl, if_pos (by omega), wj]
theorem r_hunk (h : Hunk) (hs : Small h) : Ev (fun k => selvageref10_Valid.f k h.f0 h.f1 h.f2 h.f3 h.f4 h.f5) (if hunkOk h = true then 0 else 100) := by
  have h1 := hs.rows
  have h2 := hs.head
  have hc1 := cntOld_le h.f5
  have hc2 := cntNew_le h.f5
  have jump : ∀ (x : Bool) (v : Int), (if (x && !decide (∃ y, y < h.f4.size ∧ bt h.f4 ((y : Nat) : Int) = 10)) = true then 0 else 100) = v → Ev (fun k => selvageref10_Valid.j0 k x h.f0 h.f1 h.f2 h.f3 h.f4 h.f5) v := by
    intro x v hv
    have := r_head_at h (by omega) h.f4.size 0 x (by omega)
    rw [show decide (∃ y, y < h.f4.size ∧ 0 ≤ y ∧ bt h.f4 ((y : Nat) : Int) = 10) = decide (∃ y, y < h.f4.size ∧ bt h.f4 ((y : Nat) : Int) = 10) from decide_eq_decide.mpr ⟨fun ⟨y, a, _, b⟩ => ⟨y, a, b⟩, fun ⟨y, a, b⟩ => ⟨y, a, Nat.zero_le _, b⟩⟩, hv] at this
    exact Ev.step (fun k => by rw [selvageref10_Valid.j0]; rfl) this
  unfold selvageref10_Valid.f
  refine Ev.bind (r_counts h.f5 (by omega)) (Ev.bind (r_rows h.f5 (by omega) (fun r hr => by have := hs.texts r hr; omega)) ?_)
  unfold hunkOk
  cases rowsOk h.f5 false false false with
  | false =>
    refine Ev.same (fun k => if_neg (by simp)) (jump false _ ?_)
    simp
  | true =>
    refine Ev.same (fun k => if_pos rfl) ?_
    simp only []
    by_cases c1 : h.f1 = (cntOld h.f5 : Int)
    · refine Ev.same (fun k => if_pos c1) ?_
      by_cases c2 : h.f3 = (cntNew h.f5 : Int)
      · refine Ev.same (fun k => if_pos c2) ?_
        rw [← c1, ← c2, decide_eq_true rfl, decide_eq_true rfl, r_start h.f0 h.f1 (by omega), r_start h.f2 h.f3 (by omega)]
        simp only [Option.bind_some]
        cases placeOk h.f0 h.f1 with
        | false =>
          refine Ev.same (fun k => if_neg (by simp)) (jump false _ ?_)
          simp
        | true =>
          refine Ev.same (fun k => if_pos rfl) ?_
          cases placeOk h.f2 h.f3 with
          | false =>
            refine Ev.same (fun k => if_neg (by simp)) (jump false _ ?_)
            simp
          | true =>
            refine Ev.same (fun k => if_pos rfl) (jump _ _ ?_)
            unfold headOk
            simp only [Bool.true_and]
            rw [show decide ((h.f4.size : Int) ≤ 4096) = decide (h.f4.size ≤ 4096) from decide_eq_decide.mpr (by omega)]
      · refine Ev.same (fun k => if_neg c2) (jump false _ ?_)
        rw [decide_eq_false c2]; simp
    · refine Ev.same (fun k => if_neg c1) (jump false _ ?_)
      rw [decide_eq_false c1]; simp
end Go.Proofs.Ytkoagpnoaibdjaa.Pure
namespace Go.Proofs.Ytkoagpnoaibdjaa.Pure
open Go.RowKit Go.Proofs.Ytkoagpnoaibdjaa.Pp Go.Proofs.Ytkoagpnoaibdjaa.Ext Go.Proofs.YtkoagpnoaibdjaaW.PrintWords Go.Proofs.YtkoagpnoaibdjaaW.PrintLast Go.Proofs.YtkoagpnoaibdjaaW.PrintMore
set_option linter.unusedVariables false
set_option linter.unusedSimpArgs false
theorem rowsOk_kinds : ∀ (l : List Row) (e o ch : Bool), rowsOk l e o ch = true → ∀ r ∈ l, r.f0 = 1 ∨ r.f0 = 2 ∨ r.f0 = 3
  | [], _, _, _, _, r, hr => by cases hr
  | x :: t, e, o, ch, h, r, hr => by
    unfold rowsOk at h
    split at h
    · rename_i hg
      rcases List.mem_cons.mp hr with rfl | hr
      · rcases kinds r with ⟨hk, _⟩ | ⟨hk, _⟩ | ⟨hk, _⟩ | ⟨_, h1, h2⟩
        · exact .inl hk
        · exact .inr (.inl hk)
        · exact .inr (.inr hk)
        · unfold good at hg; rw [h1, h2] at hg; simp at hg
      · exact rowsOk_kinds t _ _ _ h r hr
    · cases h
theorem rowsOk_change : ∀ (l : List Row) (e o ch : Bool), rowsOk l e o ch = true → ch = true ∨ behN l < l.length
  | [], _, _, _, h => .inl h
  | x :: t, e, o, ch, h => by
    unfold rowsOk at h
    split at h
    · by_cases hk : x.f0 = 1
      · rcases rowsOk_change t _ _ _ h with h' | h'
        · rw [hk] at h'
          exact .inl (by simpa using h')
        · right
          simp only [behN, List.length_cons]
          rw [if_pos hk]; omega
      · right
        simp only [behN, List.length_cons]
        rw [if_neg hk]; omega
    · cases h
theorem hunk_rows {h : Hunk} (hk : hunkOk h = true) : rowsOk h.f5 false false false = true := by
  unfold hunkOk at hk
  simp only [Bool.and_eq_true] at hk
  exact hk.1.1.1.1.1
theorem hunk_change {h : Hunk} (hk : hunkOk h = true) : behN h.f5 < h.f5.length := by
  rcases rowsOk_change _ _ _ _ (hunk_rows hk) with h' | h'
  · cases h'
  · exact h'
theorem hunk_kinds {h : Hunk} (hk : hunkOk h = true) : ∀ r ∈ h.f5, r.f0 = 1 ∨ r.f0 = 2 ∨ r.f0 = 3 := rowsOk_kinds _ _ _ _ (hunk_rows hk)
theorem findCh_eq : ∀ (l : List Row) (i : Nat), findCh l i = if behN l < l.length then ((i + behN l : Nat) : Int) else -1
  | [], _ => rfl
  | x :: t, i => by
    unfold findCh behN
    by_cases hk : x.f0 = 1
    · rw [if_pos hk, if_pos hk, findCh_eq t (i + 1), List.length_cons]
      by_cases h : behN t < t.length
      · rw [if_pos h, if_pos (by omega)]; congr 1; omega
      · rw [if_neg h, if_neg (by omega)]
    · rw [if_neg hk, if_neg hk, List.length_cons, if_pos (by omega)]; rfl
theorem ends_apart (l : List Row) (h : behN l < l.length) : behN l + behN l.reverse < l.length := by
  rcases Nat.lt_or_ge (behN l + behN l.reverse) l.length with h1 | h1
  · exact h1
  · exfalso
    have h2 := behN_at l h
    have h3 := behN_in l.reverse (l.length - 1 - behN l) (by omega)
    rw [rev_getD l _ (by omega), show l.length - 1 - (l.length - 1 - behN l) = behN l by omega] at h3
    exact h2 h3
def leftR (l : List Row) (n : Nat) : List Row := (l.take (l.length - min (behN l.reverse) n)).drop (min (behN l) n)
theorem leftR_le (l : List Row) (n : Nat) : (leftR l n).length ≤ l.length := by unfold leftR; rw [List.length_drop, List.length_take]; omega
theorem leftR_mem (l : List Row) (n : Nat) : ∀ r ∈ leftR l n, r ∈ l := fun r hr => List.mem_of_mem_take (List.mem_of_mem_drop hr)
theorem p_left (l : List Row) (n : Nat) (h : behN l < l.length) (hl : l.length ≤ 4000000000) : leftF l (n : Int) = some (leftR l n, ((min (behN l) n : Nat) : Int)) := by
  have h2 := ends_apart l h
  unfold leftF leftR cutL
  rw [findCh_eq, if_pos h, Nat.zero_add, if_pos ⟨by omega, by omega, by omega, by omega⟩]
  have e1 : (if (behN l : Int) < (n : Int) then (behN l : Int) else (n : Int)) = ((min (behN l) n : Nat) : Int) := by split <;> omega
  have e2 : ((l.length : Int) - if (behN l.reverse : Int) < (n : Int) then (behN l.reverse : Int) else (n : Int)) = ((l.length - min (behN l.reverse) n : Nat) : Int) := by split <;> omega
  rw [e1, e2, Int.toNat_natCast, Int.toNat_natCast]
theorem r_ahead (h : Hunk) (hl : h.f5.length ≤ 4000000000) (v : Int × Int) (hb : behN h.f5 < h.f5.length) (hv : Ev (fun k => selvageref17_contexts.j1 k (behN h.f5 : Int) 0 h.f0 h.f1 h.f2 h.f3 h.f4 h.f5) v) (d : Nat) : ∀ i : Nat, i + d = behN h.f5 →
    Ev (fun k => selvageref17_contexts.l0 k (i : Int) 0 h.f0 h.f1 h.f2 h.f3 h.f4 h.f5) v := by
  induction d with
  | zero =>
    intro i hi
    rw [show i = behN h.f5 by omega]
    refine Ev.step (fun k => ?_) hv
    rw [selvageref17_contexts.l0, if_pos (by omega), if_pos (by omega), rd_row, if_neg (behN_at _ hb)]
  | succ d ih =>
    intro i hi
    refine Ev.step (fun k => ?_) (ih (i + 1) (by omega))
    rw [selvageref17_contexts.l0, if_pos (by omega), if_pos (by omega), rd_row, if_pos (behN_in _ _ (by omega)), w_of (i + 1) _ (by omega) (by omega)]
theorem r_behind (h : Hunk) (hl : h.f5.length ≤ 4000000000) (hb : behN h.f5 < h.f5.length) (d : Nat) : ∀ i : Nat, i + d = behN h.f5.reverse →
    Ev (fun k => selvageref17_contexts.l1 k (behN h.f5 : Int) (i : Int) h.f0 h.f1 h.f2 h.f3 h.f4 h.f5) ((behN h.f5 : Int), (behN h.f5.reverse : Int)) := by
  have h2 := ends_apart _ hb
  have hrow : ∀ i : Nat, i < h.f5.length → rd_T72 h.f5 (wrap64 (wrap64 ((h.f5.length : Int) - 1) - (i : Int))) = h.f5.reverse.getD i z72 := by
    intro i hi
    rw [w64' (i := (h.f5.length : Int) - 1) (by omega) (by omega), w_of (h.f5.length - 1 - i) _ (by omega) (by omega), rd_row, rev_getD _ _ hi]
  have hw : ∀ i : Nat, i < h.f5.length → wrap64 (wrap64 ((h.f5.length : Int) - 1) - (i : Int)) = ((h.f5.length - 1 - i : Nat) : Int) := by
    intro i hi
    rw [w64' (i := (h.f5.length : Int) - 1) (by omega) (by omega), w_of (h.f5.length - 1 - i) _ (by omega) (by omega)]
  induction d with
  | zero =>
    intro i hi
    have hi2 : i = behN h.f5.reverse := by omega
    refine Ev.step (f := fun _ => some ((behN h.f5 : Int), (behN h.f5.reverse : Int))) (fun k => ?_) (Ev.pure _)
    rw [selvageref17_contexts.l1, w64' (i := (h.f5.length : Int) - (behN h.f5 : Int)) (by omega) (by omega), if_pos (by omega), hrow i (by omega), hw i (by omega), if_pos (by omega), if_pos (by omega), if_neg, hi2]
    rw [hi2]
    exact behN_at _ (by rw [List.length_reverse]; omega)
  | succ d ih =>
    intro i hi
    refine Ev.step (fun k => ?_) (ih (i + 1) (by omega))
    rw [selvageref17_contexts.l1, w64' (i := (h.f5.length : Int) - (behN h.f5 : Int)) (by omega) (by omega), if_pos (by omega), hrow i (by omega), hw i (by omega), if_pos (by omega), if_pos (by omega), if_pos (behN_in _ _ (by omega)), w_of (i + 1) _ (by omega) (by omega)]
theorem r_contexts (h : Hunk) (hl : h.f5.length ≤ 4000000000) (hb : behN h.f5 < h.f5.length) : Ev (fun k => selvageref17_contexts.f k h.f0 h.f1 h.f2 h.f3 h.f4 h.f5) ((behN h.f5 : Int), (behN h.f5.reverse : Int)) := by
  refine r_ahead h hl _ hb ?_ (behN h.f5) 0 (by omega)
  exact Ev.step (fun k => by rw [selvageref17_contexts.j1]; rfl) (r_behind h hl hb (behN h.f5.reverse) 0 (by omega))
theorem r_left (h : Hunk) (n : Nat) (hb : behN h.f5 < h.f5.length) (hl : h.f5.length ≤ 4000000000) : Ev (fun k => refLeftF k h (n : Int)) (leftR h.f5 n, ((min (behN h.f5) n : Nat) : Int)) := by
  have h2 := ends_apart _ hb
  unfold refLeftF
  refine Ev.bind (r_contexts h hl hb) ?_
  have e1 : minF (behN h.f5 : Int) (n : Int) = ((min (behN h.f5) n : Nat) : Int) := by unfold minF; split <;> omega
  have e2 : wrap64 ((h.f5.length : Int) - minF (behN h.f5.reverse : Int) (n : Int)) = ((h.f5.length - min (behN h.f5.reverse) n : Nat) : Int) := by
    rw [show minF (behN h.f5.reverse : Int) (n : Int) = ((min (behN h.f5.reverse) n : Nat) : Int) by unfold minF; split <;> omega]
    exact w_of _ _ (by omega) (by omega)
  simp only [e1, e2]
  refine Ev.same (fun k => if_pos ⟨by omega, by omega, by omega⟩) ?_
  unfold leftR cutL
  rw [Int.toNat_natCast, Int.toNat_natCast]
  exact Ev.pure _
def oldS (l : List Row) : List ByteArray := (l.filter isOld).map (·.f1)
def newS (l : List Row) : List ByteArray := (l.filter isNew).map (·.f1)
theorem oldS_le (l : List Row) : (oldS l).length ≤ l.length := by unfold oldS; rw [List.length_map]; exact List.length_filter_le _ _
theorem newS_le (l : List Row) : (newS l).length ≤ l.length := by unfold newS; rw [List.length_map]; exact List.length_filter_le _ _
theorem p_sides_at (l : List Row) (hl : l.length ≤ 4000000000) (d : Nat) : ∀ (i : Nat) (x y : List ByteArray), i + d = l.length → x.length ≤ i → y.length ≤ i →
    Ev (fun k => hunks_Sides.l0 k x y l (l.length : Int) (i : Int)) (x ++ oldS (l.drop i), y ++ newS (l.drop i)) := by
  induction d with
  | zero =>
    intro i x y h _ _
    rw [List.drop_of_length_le (by omega)]
    refine Ev.step (f := fun _ => some (x, y)) (fun k => by rw [hunks_Sides.l0, if_neg (by omega)]) ?_
    unfold oldS newS
    simp only [List.filter_nil, List.map_nil, List.append_nil]
    exact Ev.pure _
  | succ d ih =>
    intro i x y h hx hy
    have hi : i < l.length := by omega
    rw [drop_by l z72 i hi]
    obtain ⟨r, hr⟩ : ∃ r, r = l.getD i z72 := ⟨_, rfl⟩
    have wi : wrap64 ((i : Int) + 1) = ((i + 1 : Nat) : Int) := w_of (i + 1) _ (by omega) (by omega)
    rw [← hr]
    have h2 := ih (i + 1) (x ++ (if isOld r = true then [r.f1] else [])) (y ++ (if isNew r = true then [r.f1] else [])) (by omega) (by split <;> simp <;> omega) (by split <;> simp <;> omega)
    have e1 : x ++ oldS (r :: l.drop (i + 1)) = (x ++ (if isOld r = true then [r.f1] else [])) ++ oldS (l.drop (i + 1)) := by unfold oldS; rw [List.filter_cons]; split <;> simp
    have e2 : y ++ newS (r :: l.drop (i + 1)) = (y ++ (if isNew r = true then [r.f1] else [])) ++ newS (l.drop (i + 1)) := by unfold newS; rw [List.filter_cons]; split <;> simp
    rw [e1, e2]
    refine Ev.step (fun k => (?_ : _ = hunks_Sides.j1 k x y l (l.length : Int) (i : Int) (isOld r) r.f0 r.f1)) (Ev.step (fun k => ?_) h2)
    · rw [hunks_Sides.l0, if_pos (by omega), if_pos (by omega), if_pos (by omega), rd_row, ← hr]
      unfold isOld
      by_cases hk : r.f0 = 1
      · rw [if_pos hk, hk]; rfl
      · rw [if_neg hk, show (r.f0 == 1) = false from beq_eq_false_iff_ne.mpr hk, Bool.false_or]
    · have hx1 : x.length < 8796093022208 := by omega
      have hy1 : y.length < 8796093022208 := by omega
      rw [hunks_Sides.j1, wi]
      rcases kinds r with ⟨hk, h3, h4⟩ | ⟨hk, h3, h4⟩ | ⟨hk, h3, h4⟩ | ⟨hk, h3, h4⟩
      · simp [h3, h4, hk, hx1, hy1]
      · simp [h3, h4, hk, hx1, hy1]
      · simp [h3, h4, hk, hx1, hy1]
      · simp [h3, h4, hk.1, hk.2.2, hx1, hy1]
theorem p_sides2 (l : List Row) (hl : l.length ≤ 4000000000) : Ev (fun k => apply_sides.f k l) (oldS l, newS l) := by
  have := p_sides_at l hl l.length 0 [] [] (by omega) (by simp) (by simp)
  rw [List.drop_zero, List.nil_append, List.nil_append] at this
  unfold apply_sides.f hunks_Sides.f
  exact Ev.bind this (Ev.pure _)
theorem r_side_at (l : List Row) (hl : l.length ≤ 4000000000) (but : Int) (P : Row → Bool) (hP : ∀ r ∈ l, (r.f0 = but ↔ P r = false)) (d : Nat) : ∀ (i : Nat) (x : List ByteArray), i + d = l.length → x.length ≤ i →
    Ev (fun k => selvageref17_side.l0 k l but x (i : Int)) (x ++ ((l.drop i).filter P).map (·.f1)) := by
  induction d with
  | zero =>
    intro i x h _
    rw [List.drop_of_length_le (by omega)]
    refine Ev.step (f := fun _ => some x) (fun k => by rw [selvageref17_side.l0, if_neg (by omega)]) ?_
    simp only [List.filter_nil, List.map_nil, List.append_nil]
    exact Ev.pure _
  | succ d ih =>
    intro i x h hx
    have hi : i < l.length := by omega
    rw [drop_by l z72 i hi]
    obtain ⟨r, hr⟩ : ∃ r, r = l.getD i z72 := ⟨_, rfl⟩
    have hm : r ∈ l := by rw [hr, List.getD_eq_getElem?_getD, List.getElem?_eq_getElem hi]; exact List.getElem_mem hi
    have wi : wrap64 ((i : Int) + 1) = ((i + 1 : Nat) : Int) := w_of (i + 1) _ (by omega) (by omega)
    rw [← hr, List.filter_cons]
    cases hp : P r with
    | false =>
      rw [if_neg (by simp)]
      refine Ev.step (fun k => ?_) (ih (i + 1) x (by omega) (by omega))
      rw [selvageref17_side.l0, if_pos (by omega), if_pos (by omega), rd_row, ← hr, if_pos ((hP r hm).mpr hp), wi]
    | true =>
      rw [if_pos rfl, List.map_cons, show x ++ r.f1 :: ((l.drop (i + 1)).filter P).map (·.f1) = (x ++ [r.f1]) ++ ((l.drop (i + 1)).filter P).map (·.f1) by simp]
      refine Ev.step (fun k => ?_) (ih (i + 1) (x ++ [r.f1]) (by omega) (by simp; omega))
      rw [selvageref17_side.l0, if_pos (by omega), if_pos (by omega), rd_row, ← hr, if_neg (fun h => by have := (hP r hm).mp h; rw [hp] at this; cases this), if_pos (by omega), wi]
theorem r_oldS (l : List Row) (hl : l.length ≤ 4000000000) (hk : ∀ r ∈ l, r.f0 = 1 ∨ r.f0 = 2 ∨ r.f0 = 3) : Ev (fun k => selvageref17_side.f k l 3) (oldS l) := by
  have := r_side_at l hl 3 isOld (fun r hr => by unfold isOld; rcases hk r hr with h | h | h <;> simp [h]) l.length 0 [] (by omega) (by simp)
  rw [List.drop_zero, List.nil_append] at this
  exact this
theorem r_newS (l : List Row) (hl : l.length ≤ 4000000000) (hk : ∀ r ∈ l, r.f0 = 1 ∨ r.f0 = 2 ∨ r.f0 = 3) : Ev (fun k => selvageref17_side.f k l 2) (newS l) := by
  have := r_side_at l hl 2 isNew (fun r hr => by unfold isNew; rcases hk r hr with h | h | h <;> simp [h]) l.length 0 [] (by omega) (by simp)
  rw [List.drop_zero, List.nil_append] at this
  exact this
end Go.Proofs.Ytkoagpnoaibdjaa.Pure
namespace Go.Proofs.Ytkoagpnoaibdjaa.Pure
open Go.RowKit Go.Proofs.Ytkoagpnoaibdjaa.Pp Go.Proofs.Ytkoagpnoaibdjaa.Ext Go.Proofs.YtkoagpnoaibdjaaW.PrintWords Go.Proofs.YtkoagpnoaibdjaaW.PrintLast Go.Proofs.YtkoagpnoaibdjaaW.PrintMore
set_option linter.unusedVariables false
set_option linter.unusedSimpArgs false
def dist (a b : Int) : Int := max (a - b) (b - a)
theorem dist_le {a b : Int} (h : b ≤ a) : dist a b = a - b := by unfold dist; omega
theorem dist_ge {a b : Int} (h : a ≤ b) : dist a b = b - a := by unfold dist; omega
theorem dist_comm (a b : Int) : dist a b = dist b a := by unfold dist; omega
theorem far_core (a b : Int) (h : b ≤ a) (ha : -4611686018427387904 ≤ a ∧ a ≤ 4611686018427387904) (hb : -4611686018427387904 ≤ b ∧ b ≤ 4611686018427387904) :
    IntKind.u64.wrap (IntKind.u64.wrap a - IntKind.u64.wrap b) = a - b := by
  rw [IntKind.wrap_u64, IntKind.wrap_u64, IntKind.wrap_u64]
  omega
theorem far_at (a b : Int) (ha : -4611686018427387904 ≤ a ∧ a ≤ 4611686018427387904) (hb : -4611686018427387904 ≤ b ∧ b ≤ 4611686018427387904) : apply_far.f a b = some (dist a b) := by
  unfold apply_far.f dist
  by_cases h : a < b
  · rw [if_pos h, far_core b a (by omega) hb ha]; congr 1; omega
  · rw [if_neg h, far_core a b (by omega) ha hb]; congr 1; omega
theorem r_far_at (a b : Int) (ha : -4611686018427387904 ≤ a ∧ a ≤ 4611686018427387904) (hb : -4611686018427387904 ≤ b ∧ b ≤ 4611686018427387904) : selvageref17_far.f a b = some (dist a b) := by
  unfold selvageref17_far.f dist
  by_cases h : a < b
  · rw [if_pos h, far_core b a (by omega) hb ha]; congr 1; omega
  · rw [if_neg h, far_core a b (by omega) ha hb]; congr 1; omega
def atB (old l : List ByteArray) (p : Nat) : Bool := decide (∀ j, j < l.length → (l.getD j ByteArray.empty).toList = (old.getD (p + j) ByteArray.empty).toList)
theorem eq_at (l0 l1 : List ByteArray) (hl : l0.length = l1.length) (hb : l0.length ≤ 4000000000) (d : Nat) : ∀ (i k : Nat), i + d = l0.length → d + 1 ≤ k → (∀ j, j < i → (l0.getD j ByteArray.empty).toList = (l1.getD j ByteArray.empty).toList) →
    slices_Equal_string_string.l0 k l0 l1 (l0.length : Int) (i : Int) = some (decide (∀ j, j < l0.length → (l0.getD j ByteArray.empty).toList = (l1.getD j ByteArray.empty).toList)) := by
  induction d with
  | zero =>
    intro i k h hk hj
    obtain ⟨k, rfl⟩ : ∃ x, k = x + 1 := ⟨k - 1, by omega⟩
    rw [slices_Equal_string_string.l0, if_neg (by omega), decide_eq_true (fun j h' => hj j (by omega))]
  | succ d ih =>
    intro i k h hk hj
    obtain ⟨k, rfl⟩ : ∃ x, k = x + 1 := ⟨k - 1, by omega⟩
    rw [slices_Equal_string_string.l0, if_pos (by omega), if_pos (by omega), if_pos (by omega), if_pos (by omega), rd_nat, rd_nat]
    by_cases e : (l0.getD i ByteArray.empty).toList = (l1.getD i ByteArray.empty).toList
    · rw [if_pos e, w_of (i + 1) _ (by omega) (by omega)]
      refine ih (i + 1) k (by omega) (by omega) (fun j h' => ?_)
      rcases Nat.lt_or_ge j i with c | c
      · exact hj j c
      · rw [show j = i by omega]; exact e
    · rw [if_neg e, decide_eq_false (fun hh => e (hh i (by omega)))]
theorem cut_getD (old : List ByteArray) (p m j : Nat) (hj : j < m) (h : p + m ≤ old.length) : (cutL old (p : Int) ((p + m : Nat) : Int)).getD j ByteArray.empty = old.getD (p + j) ByteArray.empty := by
  unfold cutL
  rw [Int.toNat_natCast, Int.toNat_natCast, List.getD_eq_getElem?_getD, List.getElem?_drop, List.getElem?_take, if_pos (by omega), ← List.getD_eq_getElem?_getD]
theorem cutN_length (old : List ByteArray) (p m : Nat) (h : p + m ≤ old.length) : (cutL old (p : Int) ((p + m : Nat) : Int)).length = m := by
  unfold cutL
  rw [Int.toNat_natCast, Int.toNat_natCast, List.length_drop, List.length_take]; omega
theorem match_at (old l : List ByteArray) (kk q : Int) (p k : Nat) (hp : q + kk = p) (hl : p + l.length ≤ old.length) (hb : old.length ≤ 4000000000) (hk : l.length + 1 ≤ k) : matchF k l old kk q = some (atB old l p) := by
  unfold matchF slices_Equal_string_string.f
  have w1 : wrap64 (q + kk) = (p : Int) := w_of p _ hp (by omega)
  have w2 : wrap64 ((p : Int) + (l.length : Int)) = ((p + l.length : Nat) : Int) := w_of _ _ (by omega) (by omega)
  rw [w1, w2, if_pos ⟨by omega, by omega, by omega⟩, cutN_length old p l.length hl, if_pos rfl]
  have := eq_at l (cutL old (p : Int) ((p + l.length : Nat) : Int)) (cutN_length old p l.length hl).symm (by omega) l.length 0 k (by omega) hk (fun j h' => by omega)
  rw [show ((0 : Nat) : Int) = 0 from rfl] at this
  rw [this]
  unfold atB
  congr 1
  apply decide_eq_decide.mpr
  constructor
  · intro h j hj; have := h j hj; rw [cut_getD old p l.length j hj hl] at this; exact this
  · intro h j hj; rw [cut_getD old p l.length j hj hl]; exact h j hj
theorem r_at_loop (old l : List ByteArray) (p : Nat) (hl : p + l.length ≤ old.length) (hb : old.length ≤ 4000000000) (d : Nat) : ∀ (i k : Nat), i + d = l.length → d + 1 ≤ k → (∀ j, j < i → (l.getD j ByteArray.empty).toList = (old.getD (p + j) ByteArray.empty).toList) →
    selvageref17_at.l0 k old (p : Int) l (i : Int) = some (atB old l p) := by
  induction d with
  | zero =>
    intro i k h hk hj
    obtain ⟨k, rfl⟩ : ∃ x, k = x + 1 := ⟨k - 1, by omega⟩
    unfold atB
    rw [selvageref17_at.l0, if_neg (by omega), decide_eq_true (fun j h' => hj j (by omega))]
  | succ d ih =>
    intro i k h hk hj
    obtain ⟨k, rfl⟩ : ∃ x, k = x + 1 := ⟨k - 1, by omega⟩
    have w1 : wrap64 ((p : Int) + (i : Int)) = ((p + i : Nat) : Int) := w_of _ _ (by omega) (by omega)
    rw [selvageref17_at.l0, w1, if_pos (by omega), if_pos (by omega), if_pos (by omega), if_pos (by omega), rd_nat, rd_nat]
    by_cases e : (l.getD i ByteArray.empty).toList = (old.getD (p + i) ByteArray.empty).toList
    · rw [if_pos e.symm, w_of (i + 1) _ (by omega) (by omega)]
      refine ih (i + 1) k (by omega) (by omega) (fun j h' => ?_)
      rcases Nat.lt_or_ge j i with c | c
      · exact hj j c
      · rw [show j = i by omega]; exact e
    · unfold atB
      rw [if_neg (fun x => e x.symm), decide_eq_false (fun hh => e (hh i (by omega)))]
theorem r_at (old l : List ByteArray) (p k : Nat) (hl : p + l.length ≤ old.length) (hb : old.length ≤ 4000000000) (hk : l.length + 2 ≤ k) : selvageref17_at.f k old (p : Int) l = some (atB old l p) := by
  obtain ⟨k, rfl⟩ : ∃ x, k = x + 1 := ⟨k - 1, by omega⟩
  unfold selvageref17_at.f
  rw [if_neg (by omega), w_of (p + l.length) _ (by omega) (by omega), decide_eq_false (by omega), selvageref17_at.j0, if_neg (by simp)]
  exact r_at_loop old l p hl hb l.length 0 k (by omega) (by omega) (fun j h' => by omega)
abbrev Near (M : Int → Bool) (near lo hi : Int) (r : Int × Bool) : Prop :=
  (r.2 = true → lo ≤ r.1 ∧ r.1 ≤ hi ∧ M r.1 = true ∧ ∀ x, lo ≤ x → x ≤ hi → M x = true → dist near r.1 < dist near x ∨ (dist near r.1 = dist near x ∧ r.1 ≤ x)) ∧
  (r.2 = false → ∀ x, lo ≤ x → x ≤ hi → M x = false)
theorem Near.one {M : Int → Bool} {near lo hi : Int} {r s : Int × Bool} (h : Near M near lo hi r) (k : Near M near lo hi s) : r.2 = s.2 ∧ (r.2 = true → r.1 = s.1) := by
  obtain ⟨r1, r2⟩ := r
  obtain ⟨s1, s2⟩ := s
  obtain ⟨h1, h2⟩ := h
  obtain ⟨k1, k2⟩ := k
  simp only at h1 h2 k1 k2 ⊢
  cases r2 with
  | true =>
    obtain ⟨a1, a2, a3, a4⟩ := h1 rfl
    cases s2 with
    | true =>
      obtain ⟨b1, b2, b3, b4⟩ := k1 rfl
      refine ⟨rfl, fun _ => ?_⟩
      have := a4 s1 b1 b2 b3
      have := b4 r1 a1 a2 a3
      omega
    | false => rw [k2 rfl r1 a1 a2] at a3; cases a3
  | false =>
    cases s2 with
    | true =>
      obtain ⟨b1, b2, b3, b4⟩ := k1 rfl
      rw [h2 rfl s1 b1 b2] at b3; cases b3
    | false => exact ⟨rfl, fun h => by cases h⟩
theorem near_at (mt : Int → Option Bool) (M : Int → Bool) (near lo hi : Int) (hm : ∀ q, lo ≤ q → q ≤ hi → mt q = some (M q)) (hn : -1000000000000 ≤ near ∧ near ≤ 1000000000000) (hlo : -1000000000000 ≤ lo) (hhi : hi ≤ 1000000000000) :
    ∀ (g : Nat) (d u : Int) (A B : Nat), d - lo + 1 ≤ A → hi - u + 1 ≤ B → A + B < g → d ≤ near → d ≤ hi → lo ≤ u → (u ≤ hi → near < u) → (-1000000000001 ≤ d) → u ≤ 1000000000001 → (∀ x, lo ≤ x → x ≤ hi → d < x → x < u → M x = false) →
      ∃ r, nearL mt near lo hi g d u = some r ∧ Near M near lo hi r
  | 0, d, u, A, B, _, _, h2, _, _, _, _, _, _, _ => by omega
  | g + 1, d, u, A, B, hA, hB, h2, hd, hdh, hlu, hu, hdl, huu, hx => by
    unfold nearL
    have wd : lo ≤ d → wrap64 (d - 1) = d - 1 := fun _ => w64' (i := d - 1) (by omega) (by omega)
    have wu : u ≤ hi → wrap64 (u + 1) = u + 1 := fun _ => w64' (i := u + 1) (by omega) (by omega)
    -- a step down, a step up
    have down : lo ≤ d → (∀ x, lo ≤ x → x ≤ hi → M x = true → dist near d < dist near x ∨ (dist near d = dist near x ∧ d ≤ x)) →
        ∃ r, ((mt d).bind fun b => if b = true then some (d, true) else nearL mt near lo hi g (wrap64 (d - 1)) u) = some r ∧ Near M near lo hi r := by
      intro h3 h4
      rw [hm d h3 hdh, Option.bind_some]
      cases hM : M d with
      | true => exact ⟨_, if_pos rfl, ⟨fun _ => ⟨h3, hdh, hM, h4⟩, fun h => by cases h⟩⟩
      | false =>
        rw [if_neg (by simp), wd h3]
        refine near_at mt M near lo hi hm hn hlo hhi g (d - 1) u (A - 1) B (by omega) hB (by omega) (by omega) (by omega) hlu hu (by omega) huu (fun x a b c e => ?_)
        rcases (by omega : x = d ∨ d < x) with c' | c'
        · rw [c']; exact hM
        · exact hx x a b c' e
    have up : u ≤ hi → (∀ x, lo ≤ x → x ≤ hi → M x = true → dist near u < dist near x ∨ (dist near u = dist near x ∧ u ≤ x)) →
        ∃ r, ((mt u).bind fun b => if b = true then some (u, true) else nearL mt near lo hi g d (wrap64 (u + 1))) = some r ∧ Near M near lo hi r := by
      intro h3 h4
      rw [hm u hlu h3, Option.bind_some]
      cases hM : M u with
      | true => exact ⟨_, if_pos rfl, ⟨fun _ => ⟨hlu, h3, hM, h4⟩, fun h => by cases h⟩⟩
      | false =>
        rw [if_neg (by simp), wu h3]
        have := hu h3
        refine near_at mt M near lo hi hm hn hlo hhi g d (u + 1) A (B - 1) hA (by omega) (by omega) hd hdh (by omega) (fun _ => by omega) hdl (by omega) (fun x a b c e => ?_)
        rcases (by omega : x = u ∨ x < u) with c' | c'
        · rw [c']; exact hM
        · exact hx x a b c c'
    have away : ∀ x, lo ≤ x → x ≤ hi → M x = true → x ≤ d ∨ u ≤ x := fun x a b c => by
      rcases (by omega : x ≤ d ∨ u ≤ x ∨ (d < x ∧ x < u)) with h | h | h
      · exact .inl h
      · exact .inr h
      · rw [hx x a b h.1 h.2] at c; cases c
    clear hA hB h2 hm
    by_cases c1 : hi < u
    · rw [if_pos c1]
      by_cases c2 : lo ≤ d
      · rw [if_pos c2]
        refine down c2 (fun x a b c => ?_)
        rcases away x a b c with e | e
        · rw [dist_le hd, dist_le (show x ≤ near by omega)]; omega
        · omega
      · rw [if_neg c2]
        refine ⟨_, rfl, ⟨fun h => (by cases h), fun _ x a b => ?_⟩⟩
        exact hx x a b (by omega) (by omega)
    · rw [if_neg c1]
      have hnu := hu (by omega)
      by_cases c2 : lo ≤ d
      · rw [if_pos c2, far_at near d (by omega) (by omega), Option.bind_some, far_at u near (by omega) (by omega), Option.bind_some, dist_comm u near, dist_le hd, dist_ge (show near ≤ u by omega)]
        by_cases c3 : near - d ≤ u - near
        · rw [if_pos c3]
          refine down c2 (fun x a b c => ?_)
          rcases away x a b c with e | e
          · rw [dist_le hd, dist_le (show x ≤ near by omega)]; omega
          · rw [dist_le hd, dist_ge (show near ≤ x by omega)]; omega
        · rw [if_neg c3]
          refine up (by omega) (fun x a b c => ?_)
          rcases away x a b c with e | e
          · rw [dist_ge (show near ≤ u by omega), dist_le (show x ≤ near by omega)]; omega
          · rw [dist_ge (show near ≤ u by omega), dist_ge (show near ≤ x by omega)]; omega
      · rw [if_neg c2]
        refine up (by omega) (fun x a b c => ?_)
        rcases away x a b c with e | e
        · omega
        · rw [dist_ge (show near ≤ u by omega), dist_ge (show near ≤ x by omega)]; omega
theorem p_near (mt : Int → Option Bool) (M : Int → Bool) (near lo hi : Int) (k n : Nat) (hm : ∀ q, lo ≤ q → q ≤ hi → mt q = some (M q)) (hn : -1000000000000 ≤ near ∧ near ≤ 1000000000000) (hlo : -1000000000000 ≤ lo) (hhi : hi ≤ 1000000000000)
    (hlh : lo ≤ hi) (hnn : hi - lo + 1 ≤ n) (hk : n + 1 < k) : ∃ r, nearF mt k near lo hi = some r ∧ Near M near lo hi r := by
  unfold nearF downF upF
  have wn : near < hi → wrap64 (near + 1) = near + 1 := fun _ => w64' (i := near + 1) (by omega) (by omega)
  have wh : wrap64 (hi + 1) = hi + 1 := w64' (i := hi + 1) (by omega) (by omega)
  by_cases c1 : lo ≤ near
  · rw [if_pos c1]
    by_cases c2 : near < hi
    · rw [if_pos c2, if_neg (by omega), wn c2]
      exact near_at mt M near lo hi hm hn hlo hhi k near (near + 1) (near - lo + 1).toNat (hi - near).toNat (by omega) (by omega) (by omega) (by omega) (by omega) (by omega) (by omega) (by omega) (by omega) (fun x a b c e => by omega)
    · rw [if_neg c2, wh]
      by_cases c3 : hi < near
      · rw [if_pos c3]
        exact near_at mt M near lo hi hm hn hlo hhi k hi (hi + 1) n 0 (by omega) (by omega) (by omega) (by omega) (by omega) (by omega) (by omega) (by omega) (by omega) (fun x a b c e => by omega)
      · rw [if_neg c3]
        exact near_at mt M near lo hi hm hn hlo hhi k near (hi + 1) n 0 (by omega) (by omega) (by omega) (by omega) (by omega) (by omega) (by omega) (by omega) (by omega) (fun x a b c e => by omega)
  · rw [if_neg c1, if_neg (by omega)]
    exact near_at mt M near lo hi hm hn hlo hhi k near lo 0 n (by omega) (by omega) (by omega) (by omega) (by omega) (by omega) (by omega) (by omega) (by omega) (fun x a b c e => by omega)
set_option maxHeartbeats 1000000 in
theorem r_place (old l : List ByteArray) (kk : Nat) (want frm : Int) (hb : old.length ≤ 1000000000) (hll : l.length ≤ old.length) (hkk : kk ≤ 1000000000) (hw : -1000000000000 ≤ want ∧ want ≤ 1000000000000) (K : Nat) (hK : l.length + 2 ≤ K) (d : Nat) :
    ∀ (p : Nat) (best : Int) (found : Bool) (g : Nat), p + d = old.length - l.length + 1 → frm ≤ (p : Int) → d < g → (-1000000000000 ≤ best ∧ best ≤ 1000000000000) → Near (fun q => atB old l (q + kk).toNat) want (frm - kk) ((p : Int) - 1 - kk) (best, found) →
      ∃ r, refP K old l (kk : Int) want g (p : Int) best found = some r ∧ Near (fun q => atB old l (q + kk).toNat) want (frm - kk) (((old.length - l.length : Nat) : Int) - kk) r := by
  induction d with
  | zero =>
    intro p best found g hp hf hg hbd hN
    have HN := Aside0.mk hN
    clear hN
    obtain ⟨g, rfl⟩ : ∃ x, g = x + 1 := ⟨g - 1, by omega⟩
    unfold refP
    rw [w_of (p + l.length) _ (by omega) (by omega), if_neg (by omega)]
    refine ⟨_, rfl, ?_⟩
    rw [show ((old.length - l.length : Nat) : Int) - kk = (p : Int) - 1 - kk by omega]
    exact HN.out
  | succ d ih =>
    intro p best found g hp hf hg hbd hN
    have HN := Aside0.mk hN
    clear hN
    obtain ⟨g, rfl⟩ : ∃ x, g = x + 1 := ⟨g - 1, by omega⟩
    unfold refP
    have wk : wrap64 ((p : Int) - (kk : Int)) = (p : Int) - (kk : Int) := by
      clear ih HN hbd hw hK
      exact w64' (i := (p : Int) - (kk : Int)) (by omega) (by omega)
    rw [wk]
    have hat := r_at old l p K (by omega) (by omega) hK
    rw [w_of (p + l.length) _ (by omega) (by omega), if_pos (by omega), w_of (p + 1) _ (by omega) (by omega), hat, Option.bind_some]
    clear wk hat
    have hq : ((p : Int) - kk + kk).toNat = p := by omega
    have hnext : ((p + 1 : Nat) : Int) - 1 - kk = (p : Int) - kk := by omega
    have N1 := Aside0.mk HN.out.1
    have N2 := Aside0.mk HN.out.2
    clear HN
    cases ha : atB old l p with
    | false =>
      rw [if_neg (by simp)]
      refine ih (p + 1) best found g (by omega) (by omega) (by omega) hbd ?_
      rw [hnext]
      refine ⟨fun h => ?_, fun h x a b => ?_⟩
      · obtain ⟨a1, a2, a3, a4⟩ := N1.out h
        simp only at a1 a2
        refine ⟨a1, by simp only; omega, a3, fun x a b c => ?_⟩
        rcases (by omega : x ≤ (p : Int) - 1 - kk ∨ x = (p : Int) - kk) with e | e
        · exact a4 x a e c
        · rw [e] at c; simp only [hq, ha] at c; cases c
      · rcases (by omega : x ≤ (p : Int) - 1 - kk ∨ x = (p : Int) - kk) with e | e
        · exact N2.out h x a e
        · rw [e]; simp only [hq, ha]
    | true =>
      rw [if_pos rfl]
      cases found with
      | false =>
        rw [if_neg (by simp)]
        refine ih (p + 1) ((p : Int) - kk) true g (by omega) (by omega) (by omega) (by omega) ?_
        rw [hnext]
        refine ⟨fun _ => ⟨by simp only; omega, by simp only; omega, by simp only [hq, ha], fun x a b c => ?_⟩, fun h => by cases h⟩
        rcases (by omega : x ≤ (p : Int) - 1 - kk ∨ x = (p : Int) - kk) with e | e
        · have := N2.out rfl x a e
          rw [this] at c; cases c
        · right; rw [e]; exact ⟨rfl, by simp only; omega⟩
      | true =>
        rw [if_pos rfl, r_far_at ((p : Int) - (kk : Int)) want (by omega) (by omega), Option.bind_some, r_far_at best want (by omega) (by omega), Option.bind_some]
        obtain ⟨a1, a2, a3, a4⟩ := N1.out rfl
        simp only at a1 a2
        by_cases c3 : dist ((p : Int) - kk) want < dist best want
        · rw [if_pos c3]
          refine ih (p + 1) ((p : Int) - kk) true g (by omega) (by omega) (by omega) (by omega) ?_
          rw [hnext]
          refine ⟨fun _ => ⟨by simp only; omega, by simp only; omega, by simp only [hq, ha], fun x a b c => ?_⟩, fun h => by cases h⟩
          rcases (by omega : x ≤ (p : Int) - 1 - kk ∨ x = (p : Int) - kk) with e | e
          · have := a4 x a e c
            simp only at this ⊢
            rw [dist_comm _ want, dist_comm best want] at c3
            omega
          · right; rw [e]; exact ⟨rfl, by simp only; omega⟩
        · rw [if_neg c3]
          refine ih (p + 1) best true g (by omega) (by omega) (by omega) hbd ?_
          rw [hnext]
          refine ⟨fun _ => ⟨a1, by simp only; omega, a3, fun x a b c => ?_⟩, fun h => by cases h⟩
          rcases (by omega : x ≤ (p : Int) - 1 - kk ∨ x = (p : Int) - kk) with e | e
          · exact a4 x a e c
          · simp only
            rw [e]
            rw [dist_comm _ want, dist_comm best want] at c3
            omega
end Go.Proofs.Ytkoagpnoaibdjaa.Pure
namespace Go.Proofs.Ytkoagpnoaibdjaa.Pure
open Go.RowKit Go.Proofs.Ytkoagpnoaibdjaa.Pp Go.Proofs.Ytkoagpnoaibdjaa.Ext Go.Proofs.YtkoagpnoaibdjaaW.PrintWords Go.Proofs.YtkoagpnoaibdjaaW.PrintLast Go.Proofs.YtkoagpnoaibdjaaW.PrintMore
set_option linter.unusedVariables false
set_option linter.unusedSimpArgs false
def sought (rows : List Row) (n : Nat) : List ByteArray := oldS (leftR rows n)
def skipped (rows : List Row) (n : Nat) : Nat := min (behN rows) n
structure Found (old : List ByteArray) (rows : List Row) (frm near : Int) (F : Nat) (r : Int × Int × Bool) (n : Nat) : Prop where
  fuzz : r.2.1 = (n : Int)
  le : n ≤ F
  fits : (sought rows n).length ≤ old.length
  near : Near (fun q => atB old (sought rows n) (q + (skipped rows n : Int)).toNat) near (frm - (skipped rows n : Int)) (((old.length - (sought rows n).length : Nat) : Int) - (skipped rows n : Int)) (r.1, true)
theorem sought_eq (rows : List Row) (n : Nat) : sought rows n = oldS (leftR rows n) := rfl
theorem skipped_eq (rows : List Row) (n : Nat) : skipped rows n = min (behN rows) n := rfl
theorem skipped_le (rows : List Row) (n : Nat) : skipped rows n ≤ n := Nat.min_le_right _ _
theorem le3 {n d F : Nat} (h1 : n + (d + 1) = F + 1) (hF : F ≤ 3) : n ≤ 3 := by omega
attribute [local irreducible] skipped sought leftR oldS newS behN dist atB
theorem find_at (old : List ByteArray) (h : Hunk) (frm : Nat) (near : Int) (F : Nat) (hF : F ≤ 3) (hb : old.length ≤ 1048576) (hh : h.f5.length ≤ 1048576) (hc : behN h.f5 < h.f5.length) (hk : ∀ r ∈ h.f5, r.f0 = 1 ∨ r.f0 = 2 ∨ r.f0 = 3)
    (hn : -1000000000000 ≤ near ∧ near ≤ 1000000000000) (hfo : frm ≤ old.length) (d : Nat) : ∀ n : Nat, n + d = F + 1 →
      ∃ r, (∃ K, ∀ k g, K ≤ k → d < g → findL k old h.f5 (frm : Int) near (F : Int) g (n : Int) = some r) ∧ (∃ K, ∀ k g, K ≤ k → d < g → refFindL k old h (frm : Int) near (F : Int) g (n : Int) = some r) ∧ (r.2.2 = true → ∃ m, Found old h.f5 (frm : Int) near F r m) := by
  have hF3 : atMost3 (F : Int) = (F : Int) := by unfold atMost3; rw [if_neg (by omega)]
  have hF4 : atM3 (F : Int) = (F : Int) := by unfold atM3; rw [if_neg (by omega)]
  induction d with
  | zero =>
    intro n h1
    refine ⟨(0, 0, false), ⟨0, fun k g _ hg => ?_⟩, ⟨0, fun k g _ hg => ?_⟩, fun h => by cases h⟩
    · obtain ⟨g, rfl⟩ : ∃ x, g = x + 1 := ⟨g - 1, by omega⟩
      rw [findL, hF3, if_neg (by omega)]
    · obtain ⟨g, rfl⟩ : ∃ x, g = x + 1 := ⟨g - 1, by omega⟩
      rw [refFindL, hF4, if_neg (by omega)]
  | succ d ih =>
    intro n h1
    obtain ⟨r', ⟨K1, hK1⟩, ⟨K2, hK2⟩, hr'⟩ := ih (n + 1) (by omega)
    have hrl := leftR_le h.f5 n
    have hsl := oldS_le (leftR h.f5 n)
    obtain ⟨K3, hK3⟩ := p_sides2 (leftR h.f5 n) (by omega)
    obtain ⟨K4, hK4⟩ := r_left h n hc (by omega)
    obtain ⟨K5, hK5⟩ := r_oldS (leftR h.f5 n) (by omega) (fun r hr => hk r (leftR_mem _ _ r hr))
    have wn : wrap64 ((n : Int) + 1) = ((n + 1 : Nat) : Int) := w_of (n + 1) _ (by omega) (by omega)
    have hL : sought h.f5 n = oldS (leftR h.f5 n) := sought_eq _ _
    obtain ⟨L, hLe⟩ : ∃ L, L = sought h.f5 n := ⟨_, rfl⟩
    rw [← hL, ← hLe] at hsl
    have hsk : skipped h.f5 n = min (behN h.f5) n := skipped_eq _ _
    obtain ⟨kk, hke⟩ : ∃ x, x = skipped h.f5 n := ⟨_, rfl⟩
    have hkk : kk ≤ 3 := by rw [hke]; exact Nat.le_trans (skipped_le _ _) (le3 h1 hF)
    have hpl : leftF h.f5 (n : Int) = some (leftR h.f5 n, (kk : Int)) := by rw [p_left h.f5 n hc (by omega), hke, hsk]
    -- the two steps
    have pstep : ∀ k g, K3 ≤ k → findL k old h.f5 (frm : Int) near (F : Int) (g + 1) (n : Int) =
        if wrap64 ((old.length : Int) - (L.length : Int)) < (frm : Int) then findL k old h.f5 (frm : Int) near (F : Int) g ((n + 1 : Nat) : Int)
        else (nearF (matchF k L old (kk : Int)) k near (wrap64 ((frm : Int) - (kk : Int))) (wrap64 (wrap64 ((old.length : Int) - (L.length : Int)) - (kk : Int)))).bind fun z =>
          if z.2 = true then some (z.1, (n : Int), true) else findL k old h.f5 (frm : Int) near (F : Int) g ((n + 1 : Nat) : Int) := by
      intro k g hk3
      have h3 : apply_sides.f k (leftR h.f5 n) = some (oldS (leftR h.f5 n), newS (leftR h.f5 n)) := hK3 k hk3
      rw [findL, hF3, if_pos (by omega), hpl, Option.bind_some, h3, Option.bind_some, wn, hLe, hL]
    have rstep : ∀ k g, K4 ≤ k → K5 ≤ k → refFindL k old h (frm : Int) near (F : Int) (g + 1) (n : Int) =
        (refP k old L (kk : Int) near k (minF (frm : Int) (wrap64 ((old.length : Int) + 1))) 0 false).bind fun z =>
          if z.2 = true then some (z.1, (n : Int), true) else refFindL k old h (frm : Int) near (F : Int) g ((n + 1 : Nat) : Int) := by
      intro k g hk4 hk5
      have h4 : refLeftF k h (n : Int) = some (leftR h.f5 n, ((min (behN h.f5) n : Nat) : Int)) := hK4 k hk4
      have h5 : selvageref17_side.f k (leftR h.f5 n) 3 = some (oldS (leftR h.f5 n)) := hK5 k hk5
      rw [refFindL, hF4, if_pos (by omega), h4, Option.bind_some, h5, Option.bind_some, wn, hLe, hL, hke, hsk]
    have hmin : minF (frm : Int) (wrap64 ((old.length : Int) + 1)) = (frm : Int) := by
      rw [w_of (old.length + 1) _ (by omega) (by omega)]
      unfold minF; rw [if_neg (by omega)]
    rw [hmin] at rstep
    clear hmin hK3 hK4 hK5 hpl
    by_cases hlf : old.length < frm + L.length
    · -- no place at all
      refine ⟨r', ⟨K1 + K3, fun k g hk hg => ?_⟩, ⟨K2 + K4 + K5 + 1, fun k g hk hg => ?_⟩, hr'⟩
      · obtain ⟨g, rfl⟩ : ∃ x, g = x + 1 := ⟨g - 1, by omega⟩
        rw [pstep k g (by omega), w64' (i := (old.length : Int) - (L.length : Int)) (by omega) (by omega), if_pos (by omega)]
        exact hK1 k g (by omega) (by omega)
      · obtain ⟨g, rfl⟩ : ∃ x, g = x + 1 := ⟨g - 1, by omega⟩
        obtain ⟨k0, hk0⟩ : ∃ x, k = x + 1 := ⟨k - 1, by omega⟩
        have h0 : refP k old L (kk : Int) near k (frm : Int) 0 false = some (0, false) := by
          conv => lhs; arg 6; rw [hk0]
          rw [refP, w_of (frm + L.length) _ (by omega) (by omega), if_neg (by omega)]
        rw [rstep k g (by omega) (by omega), h0, Option.bind_some, if_neg (by simp)]
        exact hK2 k g (by omega) (by omega)
    · have hLl : L.length ≤ old.length := by omega
      have w1 : wrap64 ((old.length : Int) - (L.length : Int)) = ((old.length - L.length : Nat) : Int) := w_of _ _ (by omega) (by omega)
      have w2 : wrap64 ((frm : Int) - (kk : Int)) = (frm : Int) - (kk : Int) := w64' (i := (frm : Int) - (kk : Int)) (by omega) (by omega)
      have w3 : wrap64 (((old.length - L.length : Nat) : Int) - (kk : Int)) = ((old.length - L.length : Nat) : Int) - (kk : Int) := w64' (i := ((old.length - L.length : Nat) : Int) - (kk : Int)) (by omega) (by omega)
      have hP : ∀ k, old.length + L.length + 10 ≤ k → ∃ z, nearF (matchF k L old (kk : Int)) k near ((frm : Int) - (kk : Int)) (((old.length - L.length : Nat) : Int) - (kk : Int)) = some z ∧ Near (fun q => atB old L (q + (kk : Int)).toNat) near ((frm : Int) - (kk : Int)) (((old.length - L.length : Nat) : Int) - (kk : Int)) z := by
        intro k hk'
        refine p_near _ _ near _ _ k (old.length + 1) (fun q a b => ?_) hn (by omega) (by omega) (by omega) (by omega) (by omega)
        exact match_at old L (kk : Int) q (q + (kk : Int)).toNat k (by omega) (by omega) (by omega) (by omega)
      have hR : ∀ k, old.length + L.length + 10 ≤ k → ∃ z, refP k old L (kk : Int) near k (frm : Int) 0 false = some z ∧ Near (fun q => atB old L (q + (kk : Int)).toNat) near ((frm : Int) - (kk : Int)) (((old.length - L.length : Nat) : Int) - (kk : Int)) z := by
        intro k hk'
        exact r_place old L kk near (frm : Int) (by omega) hLl (by omega) hn k (by omega) (old.length - L.length + 1 - frm) frm 0 false k (by omega) (by omega) (by omega) (by omega) ⟨fun h => (by cases h), fun _ x a b => by omega⟩
      obtain ⟨z0, hz0, hN0⟩ := hP (old.length + L.length + 10) (Nat.le_refl _)
      -- all of them are the one
      have hPz : ∀ k, old.length + L.length + 10 ≤ k → ∃ z, nearF (matchF k L old (kk : Int)) k near ((frm : Int) - (kk : Int)) (((old.length - L.length : Nat) : Int) - (kk : Int)) = some z ∧ z.2 = z0.2 ∧ (z.2 = true → z.1 = z0.1) := by
        intro k hk'
        obtain ⟨z, hz, hN⟩ := hP k hk'
        exact ⟨z, hz, Near.one hN hN0⟩
      have hRz : ∀ k, old.length + L.length + 10 ≤ k → ∃ z, refP k old L (kk : Int) near k (frm : Int) 0 false = some z ∧ z.2 = z0.2 ∧ (z.2 = true → z.1 = z0.1) := by
        intro k hk'
        obtain ⟨z, hz, hN⟩ := hR k hk'
        exact ⟨z, hz, Near.one hN hN0⟩
      obtain ⟨q0, b0⟩ := z0
      cases b0 with
      | true =>
        refine ⟨(q0, (n : Int), true), ⟨K3 + old.length + L.length + 10, fun k g hk hg => ?_⟩, ⟨K4 + K5 + old.length + L.length + 10, fun k g hk hg => ?_⟩, fun _ => ⟨n, ⟨rfl, by omega, by rw [← hLe]; exact hLl, by rw [← hLe, ← hke]; exact hN0⟩⟩⟩
        · obtain ⟨g, rfl⟩ : ∃ x, g = x + 1 := ⟨g - 1, by omega⟩
          obtain ⟨z, hz, e1, e2⟩ := hPz k (by omega)
          rw [pstep k g (by omega), w1, if_neg (by omega), w2, w3, hz, Option.bind_some, if_pos e1, e2 e1]
        · obtain ⟨g, rfl⟩ : ∃ x, g = x + 1 := ⟨g - 1, by omega⟩
          obtain ⟨z, hz, e1, e2⟩ := hRz k (by omega)
          rw [rstep k g (by omega) (by omega), hz, Option.bind_some, if_pos e1, e2 e1]
      | false =>
        refine ⟨r', ⟨K1 + K3 + old.length + L.length + 10, fun k g hk hg => ?_⟩, ⟨K2 + K4 + K5 + old.length + L.length + 10, fun k g hk hg => ?_⟩, hr'⟩
        · obtain ⟨g, rfl⟩ : ∃ x, g = x + 1 := ⟨g - 1, by omega⟩
          obtain ⟨z, hz, e1, e2⟩ := hPz k (by omega)
          rw [pstep k g (by omega), w1, if_neg (by omega), w2, w3, hz, Option.bind_some, if_neg (by rw [e1]; simp)]
          exact hK1 k g (by omega) (by omega)
        · obtain ⟨g, rfl⟩ : ∃ x, g = x + 1 := ⟨g - 1, by omega⟩
          obtain ⟨z, hz, e1, e2⟩ := hRz k (by omega)
          rw [rstep k g (by omega) (by omega), hz, Option.bind_some, if_neg (by rw [e1]; simp)]
          exact hK2 k g (by omega) (by omega)
end Go.Proofs.Ytkoagpnoaibdjaa.Pure
namespace Go.Proofs.Ytkoagpnoaibdjaa.Pure
open Go.RowKit Go.Proofs.Ytkoagpnoaibdjaa.Pp Go.Proofs.Ytkoagpnoaibdjaa.Ext Go.Proofs.YtkoagpnoaibdjaaW.PrintWords Go.Proofs.YtkoagpnoaibdjaaW.PrintLast Go.Proofs.YtkoagpnoaibdjaaW.PrintMore
set_option linter.unusedVariables false
set_option linter.unusedSimpArgs false
def statedI (h : Hunk) : Int := if h.f1 = 0 then h.f0 else h.f0 - 1
theorem hunk_place {h : Hunk} (hk : hunkOk h = true) : 0 ≤ h.f0 ∧ h.f0 ≤ 2147483647 ∧ (0 < h.f0 ∨ h.f1 = 0) := by
  unfold hunkOk at hk
  simp only [Bool.and_eq_true] at hk
  have := of_decide_eq_true (show placeOk h.f0 h.f1 = true from hk.1.1.2)
  exact ⟨this.2.1, this.2.2.2.1, this.2.2.1⟩
theorem p_stated {h : Hunk} (hk : hunkOk h = true) : apply_stated.f h.f0 h.f1 h.f2 h.f3 h.f4 h.f5 = some (statedI h) := by
  have hp := hunk_place hk
  unfold apply_stated.f statedI
  split
  · rfl
  · rw [w64' (i := h.f0 - 1) (by omega) (by omega)]
theorem r_stated {h : Hunk} (hk : hunkOk h = true) : selvageref17_Stated.f h.f0 h.f1 h.f2 h.f3 h.f4 h.f5 = some (statedI h) := by
  have hp := hunk_place hk
  unfold selvageref17_Stated.f statedI
  split
  · rfl
  · rw [w64' (i := h.f0 - 1) (by omega) (by omega)]
theorem stated_in {h : Hunk} (hk : hunkOk h = true) : 0 ≤ statedI h ∧ statedI h ≤ 2147483647 := by
  have hp := hunk_place hk
  unfold statedI
  split <;> omega
theorem p_sum (a b : Int) (ha : -1000000000000 ≤ a ∧ a ≤ 1000000000000) (hb : -1000000000000 ≤ b ∧ b ≤ 1000000000000) : Ev (fun k => apply_sum.f k a b) (a + b) := by
  have w1 : wrap64 (a + b) = a + b := w64' (i := a + b) (by omega) (by omega)
  have hj : ∀ k, apply_sum.j0 (k + 1) a b false = some (a + b) := by
    intro k
    rw [apply_sum.j0, if_neg (by simp), w1]
    by_cases c : b < 0
    · rw [if_pos c, w64' (i := (-9223372036854775808) - b) (by omega) (by omega), if_neg (by omega)]
    · rw [if_neg c]
  refine Ev.step (f := fun _ => some (a + b)) (fun k => ?_) (Ev.pure _)
  unfold apply_sum.f
  by_cases c : b > 0
  · rw [if_pos c, w64' (i := 9223372036854775807 - b) (by omega) (by omega), decide_eq_false (by omega), hj]
  · rw [if_neg c, hj]
theorem r_sum (a b : Int) (ha : -1000000000000 ≤ a ∧ a ≤ 1000000000000) (hb : -1000000000000 ≤ b ∧ b ≤ 1000000000000) : Ev (fun k => selvageref17_add.f k a b) (a + b) := by
  have w1 : wrap64 (a + b) = a + b := w64' (i := a + b) (by omega) (by omega)
  have hj : ∀ k, selvageref17_add.j0 (k + 1) a b false = some (a + b) := by
    intro k
    rw [selvageref17_add.j0, if_neg (by simp), w1]
    by_cases c : b < 0
    · rw [if_pos c, w64' (i := (-9223372036854775808) - b) (by omega) (by omega), if_neg (by omega)]
    · rw [if_neg c]
  refine Ev.step (f := fun _ => some (a + b)) (fun k => ?_) (Ev.pure _)
  unfold selvageref17_add.f
  by_cases c : b > 0
  · rw [if_pos c, w64' (i := 9223372036854775807 - b) (by omega) (by omega), decide_eq_false (by omega), hj]
  · rw [if_neg c, hj]
theorem finds (old : List ByteArray) (h : Hunk) (frm : Nat) (off : Int) (F : Nat) (hF : F ≤ 3) (hs : Small h) (hk : hunkOk h = true) (hb : old.length ≤ 1048576) (ho : -100000000000 ≤ off ∧ off ≤ 100000000000) (hfo : frm ≤ old.length) :
    ∃ r, Ev (fun k => apply_Find.g k old h (frm : Int) off (F : Int)) r ∧ Ev (fun k => refFind.g k old h (frm : Int) off (F : Int)) r ∧ (r.2.2 = true → ∃ m, Found old h.f5 (frm : Int) (statedI h + off) F r m) := by
  have hst := stated_in hk
  have hrows := hs.rows
  obtain ⟨r, ⟨K1, h1⟩, ⟨K2, h2⟩, h3⟩ := find_at old h frm (statedI h + off) F hF hb hrows (hunk_change hk) (hunk_kinds hk) ⟨by omega, by omega⟩ hfo (F + 1) 0 (by omega)
  refine ⟨r, ?_, ?_, h3⟩
  · have h0 : atLeast0 (frm : Int) = (frm : Int) := by unfold atLeast0; rw [if_neg (by omega)]
    unfold apply_Find.g
    rw [p_hunk h hs, if_pos hk, p_stated hk, h0]
    refine Ev.same (fun k => if_pos (by omega)) ?_
    simp only [Option.bind_some, Option.isSome_none, Bool.false_eq_true, if_false]
    refine Ev.bind (p_sum (statedI h) off ⟨by omega, by omega⟩ ⟨by omega, by omega⟩) ⟨K1 + F + 2, fun k hk' => ?_⟩
    exact h1 k k (by omega) (by omega)
  · have h0 : atL0 (frm : Int) = (frm : Int) := by unfold atL0; rw [if_neg (by omega)]
    unfold refFind.g
    rw [h0]
    refine Ev.bind (r_hunk h hs) ?_
    rw [if_pos hk, r_stated hk]
    refine Ev.same (fun k => if_pos rfl) ?_
    simp only [Option.bind_some]
    refine Ev.bind (r_sum (statedI h) off ⟨by omega, by omega⟩ ⟨by omega, by omega⟩) ⟨K2 + F + 2, fun k hk' => ?_⟩
    exact h2 k k (by omega) (by omega)
end Go.Proofs.Ytkoagpnoaibdjaa.Pure
namespace Go.Proofs.Ytkoagpnoaibdjaa.Pure
open Go.RowKit Go.Proofs.Ytkoagpnoaibdjaa.Pp Go.Proofs.Ytkoagpnoaibdjaa.Ext Go.Proofs.YtkoagpnoaibdjaaW.PrintWords Go.Proofs.YtkoagpnoaibdjaaW.PrintLast Go.Proofs.YtkoagpnoaibdjaaW.PrintMore
set_option linter.unusedVariables false
set_option linter.unusedSimpArgs false
abbrev Hit := S45
abbrev HitR := S79
def conv (x : Hit) : HitR := ⟨x.f0, x.f1, x.f2, x.f3⟩
def rowsSum (l : List Hunk) : Nat := (l.map fun h => h.f5.length).sum
theorem sk_le (rows : List Row) (n : Nat) : skipped rows n ≤ n := Nat.min_le_right _ _
theorem so_le (rows : List Row) (n : Nat) : (sought rows n).length ≤ rows.length := Nat.le_trans (oldS_le _) (leftR_le _ _)
theorem nw_le (rows : List Row) (n : Nat) : (newS (leftR rows n)).length ≤ rows.length := Nat.le_trans (newS_le _) (leftR_le _ _)
theorem so_eq (rows : List Row) (n : Nat) : oldS (leftR rows n) = sought rows n := rfl
theorem sk_eq (rows : List Row) (n : Nat) : ((min (behN rows) n : Nat) : Int) = (skipped rows n : Int) := rfl
theorem rowsSum_cons (h : Hunk) (t : List Hunk) : rowsSum (h :: t) = h.f5.length + rowsSum t := by unfold rowsSum; simp
theorem cutL_mem {α : Type} (l : List α) (a b : Int) : ∀ s ∈ cutL l a b, s ∈ l := fun s h => List.mem_of_mem_take (List.mem_of_mem_drop h)
theorem newS_mem (l : List Row) : ∀ s ∈ newS l, ∃ r ∈ l, r.f1 = s := fun s h => by
  unfold newS at h
  obtain ⟨r, h1, h2⟩ := List.mem_map.mp h
  exact ⟨r, (List.mem_filter.mp h1).1, h2⟩
theorem newS_small {h : Hunk} (hs : Small h) (n : Nat) : ∀ s ∈ newS (leftR h.f5 n), s.size ≤ 1048576 := fun s h' => by
  obtain ⟨r, h1, rfl⟩ := newS_mem _ s h'
  exact hs.texts r (leftR_mem _ _ r h1)
theorem num_q {q : Int} {kk frm n a : Nat} (p1 : (frm : Int) - (kk : Int) ≤ q) (p2 : q ≤ ((n - a : Nat) : Int) - (kk : Int)) (hk : kk ≤ 3) (hn : n ≤ 1048576) : -3 ≤ q ∧ q ≤ 1048576 := by omega
theorem num_f {q : Int} {kk frm P : Nat} (p1 : (frm : Int) - (kk : Int) ≤ q) (hP : q + (kk : Int) = (P : Int)) : frm ≤ P := by omega
theorem num_pa {q : Int} {kk n a P : Nat} (p2 : q ≤ ((n - a : Nat) : Int) - (kk : Int)) (g3 : a ≤ n) (hP : q + (kk : Int) = (P : Int)) : P + a ≤ n := by omega
theorem num_h4 {S x y z : Nat} (h : S + (x + y) ≤ 100000000) (hz : z ≤ x) : S ≤ 100000000 ∧ S + z + y ≤ 100000000 := by omega
theorem num_P {q : Int} {kk frm : Nat} (p1 : (frm : Int) - (kk : Int) ≤ q) : ∃ P : Nat, q + (kk : Int) = (P : Int) := ⟨(q + (kk : Int)).toNat, by omega⟩
theorem num_cl {c : Int} {P frm : Nat} (h : c = (P : Int) - (frm : Int)) (hf : frm ≤ P) (d : Nat) (hd : c = (d : Int)) : d = P - frm := by omega
theorem num_g {P n frm : Nat} (hf : frm ≤ P) (hP : P ≤ n) : 0 ≤ (frm : Int) ∧ (frm : Int) ≤ (P : Int) ∧ (P : Int) ≤ (n : Int) := by omega
theorem num_i {i l : Nat} (h8 : i + (l + 1) ≤ 100000000) : i + 1 + l ≤ 100000000 := by omega
theorem num_hits {h i l : Nat} (h6 : h ≤ i) (h8 : i + l ≤ 100000000) : h < 4398046511104 := by omega
theorem num_o {q st : Int} (hq : -3 ≤ q ∧ q ≤ 1048576) (hst : 0 ≤ st ∧ st ≤ 2147483647) : wrap64 (q - st) = q - st ∧ -100000000000 ≤ q - st ∧ q - st ≤ 100000000000 := ⟨w64' (by omega) (by omega), by omega, by omega⟩
theorem num_m {more : Int} {o c P frm S : Nat} (h5 : more = (o : Int) - (frm : Int)) (hc : c = P - frm) (hf : frm ≤ P) (hP : P ≤ 1048576) (hS : S ≤ 100000000) (ho : o ≤ frm + S) : wrap64 (((o + c : Nat) : Int) - (P : Int)) = more := by
  rw [w64' (i := ((o + c : Nat) : Int) - (P : Int)) (by omega) (by omega)]; omega
theorem num_n {more : Int} {o frm a b S : Nat} (h5 : more = (o : Int) - (frm : Int)) (hf : frm ≤ 1048576) (hS : S ≤ 100000000) (ho : o ≤ frm + S) (ha : a ≤ 1048576) (hb : b ≤ 1048576) : wrap64 (wrap64 (more + (b : Int)) - (a : Int)) = more + b - a := by
  rw [w64' (i := more + (b : Int)) (by omega) (by omega), w64' (i := more + (b : Int) - (a : Int)) (by omega) (by omega)]
theorem num_l {o c b P frm S : Nat} (hc : c = P - frm) (hP : P ≤ 1048576) (hS : S ≤ 100000000) (ho : o ≤ frm + S) (hf : frm ≤ 1048576) (hb : b ≤ 1048576) : o + c + b ≤ 8796093022208 := by omega
theorem num_s {o c b P a frm S : Nat} (hc : c = P - frm) (hf : frm ≤ P) (ho : o ≤ frm + S) : o + c + b ≤ P + a + (S + b) := by omega
theorem num_r {more : Int} {o c a b P frm : Nat} (h5 : more = (o : Int) - (frm : Int)) (hc : c = P - frm) (hf : frm ≤ P) : more + (b : Int) - (a : Int) = ((o + c + b : Nat) : Int) - ((P + a : Nat) : Int) := by omega
def Short (l : List ByteArray) : Prop := ∀ s ∈ l, s.size ≤ 1048576
theorem newS_short {h : Hunk} (hs : Small h) (n : Nat) : Short (newS (leftR h.f5 n)) := newS_small hs n
theorem short_at {l : List ByteArray} (h : Short l) : ∀ s ∈ l, s.size ≤ 1048576 := h
theorem short_nil : Short [] := fun s hs => by cases hs
theorem Short.app {l m : List ByteArray} (h : Short l) (k : Short m) : Short (l ++ m) := fun s hs => (List.mem_append.mp hs).elim (h s) (k s)
theorem Short.cut {l : List ByteArray} (h : Short l) (a b : Int) : Short (cutL l a b) := fun s hs => h s (cutL_mem _ _ _ s hs)
theorem conv_one (a b c d : Int) : List.map conv [(⟨a, b, c, d⟩ : Hit)] = [(⟨a, b, c, d⟩ : HitR)] := rfl
attribute [local irreducible] Short rowsSum statedI cutL conv skipped sought leftR oldS newS behN dist atB
set_option maxHeartbeats 4000000 in
theorem apply_at (old : List ByteArray) (F : Nat) (hF : F ≤ 3) (hb : old.length ≤ 1048576) (hO : Short old) : ∀ (l : List Hunk), (∀ h ∈ l, Small h ∧ hunkOk h = true) →
    ∀ (i frm S : Nat) (off more : Int) (out : List ByteArray) (hits : List Hit) (rej : List Int), frm ≤ old.length → (-100000000000 ≤ off ∧ off ≤ 100000000000) → out.length ≤ frm + S → S + rowsSum l ≤ 100000000 → more = (out.length : Int) - (frm : Int) → hits.length ≤ i → rej.length ≤ i → i + l.length ≤ 100000000 → Short out →
      ∃ (out' : List ByteArray) (hits' : List Hit) (rej' : List Int) (frm' : Nat), Ev (fun k => applyL k old (F : Int) l i (frm : Int) off out hits rej) (out', hits', rej', (frm' : Int)) ∧
        Ev (fun k => refApplyL k old (F : Int) l i (frm : Int) off more out (hits.map conv) rej) (out', hits'.map conv, rej', (frm' : Int)) ∧ frm' ≤ old.length ∧ out'.length ≤ frm' + 100000000 ∧ hits'.length ≤ i + l.length ∧ rej'.length ≤ i + l.length ∧ Short out'
  | [], _, i, frm, S, off, more, out, hits, rej, h1, _, h3, h4, _, h6, h7, _, h9 => ⟨out, hits, rej, frm, Ev.pure _, Ev.pure _, h1, by omega, by simpa using h6, by simpa using h7, h9⟩
  | h :: t, hall, i, frm, S, off, more, out, hits, rej, h1, h2, h3, h4, h5, h6, h7, h8, h9 => by
    obtain ⟨hs, hk⟩ := hall h List.mem_cons_self
    have ht : ∀ x ∈ t, Small x ∧ hunkOk x = true := fun x hx => hall x (List.mem_cons_of_mem _ hx)
    obtain ⟨⟨q, f, b⟩, hp, hr, hfnd⟩ := finds old h frm off F hF hs hk hb h2 h1
    have hsum := rowsSum_cons h t
    rw [hsum] at h4
    simp only [List.length_cons] at h8 ⊢
    cases b with
    | false =>
      obtain ⟨o', hi', re', fr', e1, e2, e3, e4, e5, e6, e7⟩ := apply_at old F hF hb hO t ht (i + 1) frm S off more out hits (rej ++ [(i : Int)]) h1 h2 h3 (by omega) h5 (by omega) (by simp; omega) (by omega) h9
      refine ⟨o', hi', re', fr', ?_, ?_, e3, e4, by omega, by omega, e7⟩
      · unfold applyL
        refine Ev.bind hp (Ev.same (fun k => if_neg (by simp)) (Ev.same (fun k => if_pos (by omega)) e1))
      · unfold refApplyL
        refine Ev.bind hr (Ev.same (fun k => if_neg (by simp)) (Ev.same (fun k => if_pos (by omega)) e2))
    | true =>
      obtain ⟨n, ⟨g1, g2, g3, g4⟩⟩ := hfnd rfl
      simp only at g1 g4
      subst g1
      obtain ⟨p1, p2, _, _⟩ := g4.1 rfl
      simp only at p1 p2
      clear hfnd g4
      have HP_ := Aside0.mk hp
      have HR_ := Aside0.mk hr
      clear hp hr
      have hsk := sk_le h.f5 n
      have hsl := so_le h.f5 n
      have hnl := nw_le h.f5 n
      have hst := stated_in hk
      have hrw := hs.rows
      have hsB : Short (newS (leftR h.f5 n)) := newS_short hs n
      obtain ⟨kk, hkk⟩ : ∃ x, x = skipped h.f5 n := ⟨_, rfl⟩
      obtain ⟨A, hA⟩ : ∃ x, x = sought h.f5 n := ⟨_, rfl⟩
      obtain ⟨B, hB⟩ : ∃ x, x = newS (leftR h.f5 n) := ⟨_, rfl⟩
      have hk3 : kk ≤ 3 := by rw [hkk]; exact Nat.le_trans hsk (Nat.le_trans g2 hF)
      rw [← hkk] at p1 p2 hsk
      rw [← hA] at p2 hsl g3
      rw [← hB] at hnl
      obtain ⟨P, hP⟩ := num_P p1
      have hfP : frm ≤ P := num_f p1 hP
      have hPA : P + A.length ≤ old.length := num_pa p2 g3 hP
      have hPb : P ≤ old.length := Nat.le_trans (Nat.le_add_right _ _) hPA
      have hPm : P ≤ 1048576 := Nat.le_trans hPb hb
      have hfm : frm ≤ 1048576 := Nat.le_trans h1 hb
      have hAm : A.length ≤ 1048576 := Nat.le_trans hsl hrw
      have hBm : B.length ≤ 1048576 := Nat.le_trans hnl hrw
      have hG := num_g hfP hPb
      have wP : wrap64 (q + (kk : Int)) = (P : Int) := w_of P _ hP (Nat.le_trans hPm (by decide))
      have hcl : (cutL old (frm : Int) (P : Int)).length = P - frm := num_cl (cutL_length old (frm : Int) (P : Int) hG.1 hG.2.1 hG.2.2) hfP _ rfl
      have wF : wrap64 ((P : Int) + (A.length : Int)) = ((P + A.length : Nat) : Int) := w_of _ _ (Int.natCast_add _ _).symm (Nat.le_trans hPA (Nat.le_trans hb (by decide)))
      obtain ⟨st, hste⟩ : ∃ x, x = statedI h := ⟨_, rfl⟩
      rw [← hste] at hst
      have hq := num_q p1 p2 hk3 hb
      obtain ⟨wO, wO2⟩ := num_o hq hst
      obtain ⟨C, hC⟩ : ∃ C, C = cutL old (frm : Int) (P : Int) := ⟨_, rfl⟩
      rw [← hC] at hcl
      obtain ⟨hS, hl4⟩ := num_h4 h4 hnl
      have wM : wrap64 (((out ++ C).length : Int) - (P : Int)) = more := by rw [List.length_append]; exact num_m h5 hcl hfP hPm hS h3
      have wN : wrap64 (wrap64 (more + (B.length : Int)) - (A.length : Int)) = more + B.length - A.length := num_n h5 hfm hS h3 hAm hBm
      have hsh : Short (out ++ C ++ B) := (h9.app (by rw [hC]; exact hO.cut _ _)).app (by rw [hB]; exact hsB)
      have hlim : (out ++ C ++ B).length ≤ 8796093022208 := by
        rw [List.length_append, List.length_append]; exact num_l hcl hPm hS h3 hfm hBm
      have hl3 : (out ++ C ++ B).length ≤ P + A.length + (S + B.length) := by rw [List.length_append, List.length_append]; exact num_s hcl hfP h3
      have hl5 : more + (B.length : Int) - (A.length : Int) = ((out ++ C ++ B).length : Int) - ((P + A.length : Nat) : Int) := by rw [List.length_append, List.length_append]; exact num_r h5 hcl hfP
      obtain ⟨o', hi', re', fr', e1, e2, e3, e4, e5, e6, e7⟩ := apply_at old F hF hb hO t ht (i + 1) (P + A.length) (S + B.length) (q - st) (more + B.length - A.length) (out ++ C ++ B) (hits ++ [⟨(i : Int), wrap64 (wrap64 (q + 1) + more), q - st, (n : Int)⟩]) rej
        hPA wO2 hl3 hl4 hl5 (by rw [List.length_append]; exact Nat.add_le_add h6 (Nat.le_refl _)) (Nat.le_succ_of_le h7) (num_i h8) hsh
      have hpl : leftF h.f5 (n : Int) = some (leftR h.f5 n, (kk : Int)) := by rw [p_left h.f5 n (hunk_change hk) (by omega), sk_eq, hkk]
      refine ⟨o', hi', re', fr', ?_, ?_, e3, e4, by omega, by omega, e7⟩
      · unfold applyL
        refine Ev.bind HP_.out (Ev.same (fun k => if_pos rfl) ?_)
        simp only [hpl, Option.bind_some]
        refine Ev.bind (p_sides2 (leftR h.f5 n) (by have := leftR_le h.f5 n; omega)) ?_
        simp only [p_stated hk, ← hste, Option.bind_some, so_eq, ← hA, ← hB, wP, ← hC, wF, wO, wM]
        exact Ev.same (fun k => if_pos ⟨hG, hlim, num_hits h6 h8⟩) e1
      · unfold refApplyL
        refine Ev.bind HR_.out (Ev.same (fun k => if_pos rfl) ?_)
        refine Ev.bind (r_left h n (hunk_change hk) (by omega)) ?_
        have hkinds : ∀ r ∈ leftR h.f5 n, r.f0 = 1 ∨ r.f0 = 2 ∨ r.f0 = 3 := fun r hr => hunk_kinds hk r (leftR_mem _ _ r hr)
        refine Ev.bind (r_oldS (leftR h.f5 n) (by have := leftR_le h.f5 n; omega) hkinds) ?_
        refine Ev.bind (r_newS (leftR h.f5 n) (by have := leftR_le h.f5 n; omega) hkinds) ?_
        simp only [r_stated hk, ← hste, Option.bind_some, so_eq, sk_eq, ← hkk, ← hA, ← hB, wP, ← hC, wF, wO, wN]
        refine Ev.same (fun k => if_pos ⟨hG, hlim, by rw [List.length_map]; exact num_hits h6 h8⟩) ?_
        rw [List.map_append, conv_one] at e2
        exact e2
end Go.Proofs.Ytkoagpnoaibdjaa.Pure
namespace Go.Proofs.Ytkoagpnoaibdjaa.Pure
open Go.RowKit Go.Proofs.Ytkoagpnoaibdjaa.Pp Go.Proofs.Ytkoagpnoaibdjaa.Ext Go.Proofs.YtkoagpnoaibdjaaW.PrintWords Go.Proofs.YtkoagpnoaibdjaaW.PrintLast Go.Proofs.YtkoagpnoaibdjaaW.PrintMore
set_option linter.unusedVariables false
set_option linter.unusedSimpArgs false
theorem p_bad : ∀ (l : List Hunk), (∀ h ∈ l, Small h) → ∀ i : Nat, ∃ r, findBad l i = some r ∧ (0 ≤ r ↔ l.all hunkOk = false)
  | [], _, i => ⟨-1, rfl, by simp⟩
  | h :: t, hs, i => by
    obtain ⟨r, e1, e2⟩ := p_bad t (fun x hx => hs x (List.mem_cons_of_mem _ hx)) (i + 1)
    unfold findBad
    rw [p_hunk h (hs h List.mem_cons_self), Option.bind_some, List.all_cons]
    cases hk : hunkOk h with
    | true => exact ⟨r, by rw [if_pos rfl]; exact (if_neg (by simp)).trans e1, by rw [e2, Bool.true_and]⟩
    | false => exact ⟨(i : Int), by simp, by simp⟩
theorem r_bad : ∀ (l : List Hunk), (∀ h ∈ l, Small h) → Ev (fun k => refBadL k l) (!l.all hunkOk)
  | [], _ => Ev.pure _
  | h :: t, hs => by
    unfold refBadL
    refine Ev.bind (r_hunk h (hs h List.mem_cons_self)) ?_
    rw [List.all_cons]
    cases hk : hunkOk h with
    | true =>
      rw [Bool.true_and]
      exact Ev.same (fun k => if_pos (by simp)) (r_bad t (fun x hx => hs x (List.mem_cons_of_mem _ hx)))
    | false => exact Ev.same (fun k => if_neg (by simp)) (Ev.pure _)
def numE (e : Option Int) : Int := e.getD 0
structure In (old : List ByteArray) (l : List Hunk) : Prop where
  len : old.length ≤ 1048576
  texts : Short old
  hunks : ∀ h ∈ l, Small h
  count : l.length ≤ 1048576
  rows : rowsSum l ≤ 1048576
attribute [local irreducible] Short rowsSum statedI cutL conv skipped sought leftR oldS newS behN dist atB hunkOk validL
end Go.Proofs.Ytkoagpnoaibdjaa.Pure
namespace Go.Proofs.Ytkoagpnoaibdjaa.Pure
open Go.RowKit Go.Proofs.Ytkoagpnoaibdjaa.Pp Go.Proofs.Ytkoagpnoaibdjaa.Ext Go.Proofs.YtkoagpnoaibdjaaW.PrintWords Go.Proofs.YtkoagpnoaibdjaaW.PrintLast Go.Proofs.YtkoagpnoaibdjaaW.PrintMore
set_option linter.unusedVariables false
set_option linter.unusedSimpArgs false
attribute [local irreducible] Short rowsSum statedI cutL conv skipped sought leftR oldS newS behN dist atB hunkOk validL
theorem apply_ev3 (old : List ByteArray) (l : List Hunk) (z : Int) (hi : In old l) : ∃ (out : List ByteArray) (hits : List Hit) (rej : List Int) (e : Option Int),
    Ev (fun k => apply_Apply.f k old l z) (out, hits, rej, e) ∧ Ev (fun k => selvageref17_Apply.f k old l z) (out, hits.map conv, rej, numE e) ∧ out.length ≤ 200000000 ∧ hits.length ≤ 1048576 ∧ rej.length ≤ 1048576 ∧ e ≠ some 0 := by
  obtain ⟨hb, hO, hH, hc, hr⟩ := hi
  unfold apply_Apply.f selvageref17_Apply.f
  by_cases c1 : z < 0
  · exact ⟨[], [], [], some 1, Ev.same (fun k => if_pos c1) (Ev.pure _), Ev.same (fun k => if_pos c1) (Ev.pure _), by simp, by simp, by simp, by simp⟩
  by_cases c2 : 3 < z
  · exact ⟨[], [], [], some 1, Ev.same (fun k => if_neg c1) (Ev.same (fun k => if_pos c2) (Ev.pure _)), Ev.same (fun k => if_neg c1) (Ev.same (fun k => if_pos c2) (Ev.pure _)), by simp, by simp, by simp, by simp⟩
  have hOs : ∀ s ∈ old, s.size ≤ 4000000000 := fun s hs => by
    have : s.size ≤ 1048576 := short_at hO s hs
    omega
  have v1 := p_valid old (by omega) hOs
  have v2 := r_valid old (by omega) hOs
  cases hv : validL old with
  | false =>
    rw [hv] at v1 v2
    refine ⟨[], [], [], some 130, Ev.same (fun k => if_neg c1) (Ev.same (fun k => if_neg c2) (Ev.bind v1 (Ev.same (fun k => if_neg (by simp)) (Ev.pure _)))), Ev.same (fun k => if_neg c1) (Ev.same (fun k => if_neg c2) (Ev.bind v2 (Ev.same (fun k => if_neg (by simp)) (Ev.pure _)))), by simp, by simp, by simp, by simp⟩
  | true =>
    rw [hv] at v1 v2
    have hlim : l.length ≤ 9223372036854775807 := by omega
    obtain ⟨x, b1, b2⟩ := p_bad l hH 0
    have b3 := r_bad l hH
    cases ha : l.all hunkOk with
    | false =>
      rw [ha] at b2 b3
      refine ⟨[], [], [], some 100, Ev.same (fun k => if_neg c1) (Ev.same (fun k => if_neg c2) (Ev.bind v1 (Ev.same (fun k => if_pos rfl) (Ev.same (fun k => if_pos hlim) ?_)))), Ev.same (fun k => if_neg c1) (Ev.same (fun k => if_neg c2) (Ev.bind v2 (Ev.same (fun k => if_pos rfl) (Ev.same (fun k => if_pos hlim) (Ev.bind b3 (Ev.same (fun k => if_pos (by simp)) (Ev.pure _))))))), by simp, by simp, by simp, by simp⟩
      rw [b1]
      exact Ev.same (fun k => if_pos (b2.mpr rfl)) (Ev.pure _)
    | true =>
      rw [ha] at b2 b3
      have hall : ∀ h ∈ l, Small h ∧ hunkOk h = true := fun h hm => ⟨hH h hm, List.all_eq_true.mp ha h hm⟩
      obtain ⟨F, rfl⟩ : ∃ F : Nat, z = (F : Int) := ⟨z.toNat, by omega⟩
      obtain ⟨out, hits, rej, frm, e1, e2, e3, e4, e5, e6, e7⟩ := apply_at old F (by omega) hb hO l hall 0 0 0 0 0 [] [] [] (by omega) (by omega) (by simp) (by omega) (by simp) (by simp) (by simp) (by omega) short_nil
      have hcl : (cutL old (frm : Int) (old.length : Int)).length = old.length - frm := by
        have := cutL_length old (frm : Int) (old.length : Int) (by omega) (by omega) (by omega)
        omega
      obtain ⟨O, hOe⟩ : ∃ O, O = out ++ cutL old (frm : Int) (old.length : Int) := ⟨_, rfl⟩
      have hOl : O.length = out.length + (old.length - frm) := by rw [hOe, List.length_append, hcl]
      have hOsh : Short O := by rw [hOe]; exact e7.app (hO.cut _ _)
      have hO4 : ∀ s ∈ O, s.size ≤ 4000000000 := fun s hs => by
        have : s.size ≤ 1048576 := short_at hOsh s hs
        omega
      have v3 := p_valid O (by omega) hO4
      have v4 := r_valid O (by omega) hO4
      have hg : (0 ≤ (frm : Int) ∧ (frm : Int) ≤ (old.length : Int)) ∧ O.length ≤ 8796093022208 := ⟨⟨by omega, by omega⟩, by omega⟩
      cases hv2 : validL O with
      | true =>
        rw [hv2] at v3 v4
        refine ⟨O, hits, rej, none, Ev.same (fun k => if_neg c1) (Ev.same (fun k => if_neg c2) (Ev.bind v1 (Ev.same (fun k => if_pos rfl) (Ev.same (fun k => if_pos hlim) ?_)))), Ev.same (fun k => if_neg c1) (Ev.same (fun k => if_neg c2) (Ev.bind v2 (Ev.same (fun k => if_pos rfl) (Ev.same (fun k => if_pos hlim) (Ev.bind b3 (Ev.same (fun k => if_neg (by simp)) (Ev.bind e2 ?_))))))), by omega, by omega, by omega, by simp⟩
        · rw [b1]
          refine Ev.same (fun k => if_neg (fun hh => by have := b2.mp hh; cases this)) (Ev.bind e1 ?_)
          simp only [← hOe]
          exact Ev.same (fun k => if_pos hg) (Ev.bind v3 (Ev.same (fun k => if_pos rfl) (Ev.pure _)))
        · simp only [← hOe]
          exact Ev.same (fun k => if_pos hg) (Ev.bind v4 (Ev.same (fun k => if_pos rfl) (Ev.pure _)))
      | false =>
        rw [hv2] at v3 v4
        refine ⟨[], [], [], some 130, Ev.same (fun k => if_neg c1) (Ev.same (fun k => if_neg c2) (Ev.bind v1 (Ev.same (fun k => if_pos rfl) (Ev.same (fun k => if_pos hlim) ?_)))), Ev.same (fun k => if_neg c1) (Ev.same (fun k => if_neg c2) (Ev.bind v2 (Ev.same (fun k => if_pos rfl) (Ev.same (fun k => if_pos hlim) (Ev.bind b3 (Ev.same (fun k => if_neg (by simp)) (Ev.bind e2 ?_))))))), by simp, by simp, by simp, by simp⟩
        · rw [b1]
          refine Ev.same (fun k => if_neg (fun hh => by have := b2.mp hh; cases this)) (Ev.bind e1 ?_)
          simp only [← hOe]
          exact Ev.same (fun k => if_pos hg) (Ev.bind v3 (Ev.same (fun k => if_neg (by simp)) (Ev.pure _)))
        · simp only [← hOe]
          exact Ev.same (fun k => if_pos hg) (Ev.bind v4 (Ev.same (fun k => if_neg (by simp)) (Ev.pure _)))
end Go.Proofs.Ytkoagpnoaibdjaa.Pure
namespace Go.Proofs.Ytkoagpnoaibdjaa.Pure
open Go.RowKit Go.Proofs.Ytkoagpnoaibdjaa.Pp Go.Proofs.Ytkoagpnoaibdjaa.Ext Go.Proofs.YtkoagpnoaibdjaaW.PrintWords Go.Proofs.YtkoagpnoaibdjaaW.PrintLast Go.Proofs.YtkoagpnoaibdjaaW.PrintMore
set_option linter.unusedVariables false
set_option linter.unusedSimpArgs false
theorem drop57 (s : List S57) (i : Nat) (h : i < s.length) : s.drop i = rd_T57 s (i : Int) :: s.drop (i + 1) := by
  unfold rd_T57
  rw [Int.toNat_natCast, List.getD_eq_getElem?_getD, List.getElem?_eq_getElem h]
  exact List.drop_eq_getElem_cons h
def okC (n m a b : Int) (c : S57) : Prop :=
  0 ≤ c.f1 ∧ 0 ≤ c.f3 ∧ (c.f1 ≠ 0 ∨ c.f3 ≠ 0) ∧ a ≤ c.f0 ∧ c.f0 ≤ n ∧ b ≤ c.f2 ∧ c.f2 ≤ m ∧ c.f0 - a = c.f2 - b ∧ c.f1 ≤ n - c.f0 ∧ c.f3 ≤ m - c.f2
def validP (n m : Int) : List S57 → Int → Int → Prop
  | [], a, b => n - a = m - b
  | c :: t, a, b => okC n m a b c ∧ validP n m t (c.f0 + c.f1) (c.f2 + c.f3)
open Classical in
noncomputable def errP (p : Prop) : Option Int := if p then none else some 60
theorem errP_pos {p : Prop} (h : p) : errP p = none := by unfold errP; rw [if_pos h]
theorem errP_neg {p : Prop} (h : ¬ p) : errP p = some 60 := by unfold errP; rw [if_neg h]
noncomputable def validS (s : List S57) (n m : Int) : Option Int := if n > 4194304 ∨ m > 4194304 then some 1 else errP (validP n m s 0 0)
def num (o : Option Int) : Int := o.getD 0
set_option maxHeartbeats 1000000 in
theorem rvalid_step (n m a b : Int) (s : List S57) (i : Nat) (hi : i < s.length) (hs : s.length ≤ 4000000000) (hn : n ≤ 4194304) (hm : m ≤ 4194304) (ha : 0 ≤ a) (hb : 0 ≤ b) (k : Nat) :
    (okC n m a b (rd_T57 s (i : Int)) → selvageref06_Valid.l0 (k + 1) s n m a b (i : Int) = selvageref06_Valid.l0 k s n m ((rd_T57 s (i : Int)).f0 + (rd_T57 s (i : Int)).f1) ((rd_T57 s (i : Int)).f2 + (rd_T57 s (i : Int)).f3) ((i + 1 : Nat) : Int)) ∧
    (¬ okC n m a b (rd_T57 s (i : Int)) → selvageref06_Valid.l0 (k + 1) s n m a b (i : Int) = some 60) := by
  have w1 : wrap64 ((i : Int) + 1) = ((i + 1 : Nat) : Int) := w_add i 1 (by omega)
  generalize hc : rd_T57 s (i : Int) = c
  constructor
  · rintro ⟨h1, h2, h3, h4, h5, h6, h7, h8, h9, h10⟩
    have e1 : wrap64 (c.f0 - a) = c.f0 - a := w64' (by omega) (by omega)
    have e2 : wrap64 (c.f2 - b) = c.f2 - b := w64' (by omega) (by omega)
    have e3 : wrap64 (n - c.f0) = n - c.f0 := w64' (by omega) (by omega)
    have e4 : wrap64 (m - c.f2) = m - c.f2 := w64' (by omega) (by omega)
    have e5 : wrap64 (c.f0 + c.f1) = c.f0 + c.f1 := w64' (by omega) (by omega)
    have e6 : wrap64 (c.f2 + c.f3) = c.f2 + c.f3 := w64' (by omega) (by omega)
    simp only [selvageref06_Valid.l0, hc, w1, e1, e2, e3, e4, e5, e6]
    rw [if_pos (by omega), if_pos (by omega), if_neg (by omega), if_neg (by omega), if_neg (by omega), if_neg (by omega), if_pos h8, if_neg (by omega), if_neg (by omega), if_neg (by omega), if_neg (by omega)]
    by_cases z : c.f1 = 0
    · rw [if_pos z, if_neg (by omega)]
    · rw [if_neg z]
  · intro hno
    simp only [selvageref06_Valid.l0, hc]
    rw [if_pos (by omega), if_pos (by omega)]
    by_cases q3 : c.f0 < a
    · rw [if_pos q3]
    rw [if_neg q3]
    by_cases q5 : c.f2 < b
    · rw [if_pos q5]
    rw [if_neg q5]
    by_cases q4 : c.f0 > n
    · rw [if_pos q4]
    rw [if_neg q4]
    by_cases q6 : c.f2 > m
    · rw [if_pos q6]
    rw [if_neg q6]
    have e1 : wrap64 (c.f0 - a) = c.f0 - a := w64' (by omega) (by omega)
    have e2 : wrap64 (c.f2 - b) = c.f2 - b := w64' (by omega) (by omega)
    have e3 : wrap64 (n - c.f0) = n - c.f0 := w64' (by omega) (by omega)
    have e4 : wrap64 (m - c.f2) = m - c.f2 := w64' (by omega) (by omega)
    rw [e1, e2]
    by_cases q7 : c.f0 - a = c.f2 - b
    case neg => rw [if_neg q7]
    rw [if_pos q7]
    by_cases q1 : c.f1 < 0
    · rw [if_pos q1]
    rw [if_neg q1]
    by_cases q2 : c.f3 < 0
    · rw [if_pos q2]
    rw [if_neg q2]
    rw [e3]
    by_cases q8 : c.f1 > n - c.f0
    · rw [if_pos q8]
    rw [if_neg q8]
    rw [e4]
    by_cases q9 : c.f3 > m - c.f2
    · rw [if_pos q9]
    rw [if_neg q9]
    by_cases z : c.f1 = 0
    · rw [if_pos z]
      by_cases z3 : c.f3 = 0
      · rw [if_pos z3]
      rw [if_neg z3]
      exact absurd ⟨by omega, by omega, by omega, by omega, by omega, by omega, by omega, q7, by omega, by omega⟩ hno
    · exact absurd ⟨by omega, by omega, by omega, by omega, by omega, by omega, by omega, q7, by omega, by omega⟩ hno
theorem rvalid_loop (n m : Int) (s : List S57) (hs : s.length ≤ 4000000000) (hn : n ≤ 4194304) (hm : m ≤ 4194304) (d : Nat) : ∀ (i : Nat) (a b : Int), i + d = s.length → 0 ≤ a → a ≤ n → 0 ≤ b → b ≤ m →
    Ev (fun k => selvageref06_Valid.l0 k s n m a b (i : Int)) (num (errP (validP n m (s.drop i) a b))) := by
  induction d with
  | zero =>
    intro i a b hd ha han hb hbm
    rw [List.drop_of_length_le (by omega)]
    refine Ev.step (f := fun _ => some (num (errP (validP n m [] a b)))) (fun k => ?_) (Ev.pure _)
    have e1 : wrap64 (n - a) = n - a := w64' (by omega) (by omega)
    have e2 : wrap64 (m - b) = m - b := w64' (by omega) (by omega)
    simp only [selvageref06_Valid.l0, e1, e2]
    rw [if_neg (by omega)]
    by_cases h : n - a = m - b
    · rw [if_pos h, errP_pos (show validP n m [] a b from h)]; rfl
    · rw [if_neg h, errP_neg (show ¬ validP n m [] a b from h)]; rfl
  | succ d ih =>
    intro i a b hd ha han hb hbm
    have hst := fun k => rvalid_step n m a b s i (by omega) hs hn hm ha hb k
    rw [drop57 s i (by omega)]
    by_cases h : okC n m a b (rd_T57 s (i : Int))
    · refine Ev.step (fun k => (hst k).1 h) ?_
      have hk := h
      obtain ⟨h1, h2, h3, h4, h5, h6, h7, h8, h9, h10⟩ := hk
      have := ih (i + 1) ((rd_T57 s (i : Int)).f0 + (rd_T57 s (i : Int)).f1) ((rd_T57 s (i : Int)).f2 + (rd_T57 s (i : Int)).f3) (by omega) (by omega) (by omega) (by omega) (by omega)
      have e : validP n m (rd_T57 s (i : Int) :: s.drop (i + 1)) a b = validP n m (s.drop (i + 1)) ((rd_T57 s (i : Int)).f0 + (rd_T57 s (i : Int)).f1) ((rd_T57 s (i : Int)).f2 + (rd_T57 s (i : Int)).f3) := propext ⟨fun x => x.2, fun x => ⟨h, x⟩⟩
      rw [e]
      exact this
    · refine Ev.step (f := fun _ => some 60) (fun k => (hst k).2 h) ?_
      rw [errP_neg (fun x => h x.1)]
      exact Ev.pure _
theorem rvalid_at (s : List S57) (hs : s.length ≤ 4000000000) (n m : Int) (hn : 0 ≤ n) (hm : 0 ≤ m) : Ev (fun k => selvageref06_Valid.f k s n m) (num (validS s n m)) := by
  unfold validS
  have jt : Ev (fun k => selvageref06_Valid.j0 k s n m true) 1 := Ev.step (f := fun _ => some 1) (fun k => by simp [selvageref06_Valid.j0]) (Ev.pure _)
  by_cases h1 : n > 4194304
  · rw [if_pos (Or.inl h1)]
    refine Ev.same (fun k => ?_) jt
    unfold selvageref06_Valid.f
    rw [if_neg (by omega), if_pos h1]
  · by_cases h2 : m > 4194304
    · rw [if_pos (Or.inr h2)]
      refine Ev.same (fun k => ?_) jt
      unfold selvageref06_Valid.f
      rw [if_neg (by omega), if_neg h1, if_neg (by omega), decide_eq_true h2]
    · rw [if_neg (by omega)]
      refine Ev.same (G := fun k => selvageref06_Valid.j0 k s n m false) (fun k => ?_) ?_
      · unfold selvageref06_Valid.f
        rw [if_neg (by omega), if_neg h1, if_neg (by omega), decide_eq_false h2]
      · refine Ev.step (f := fun k => selvageref06_Valid.l0 k s n m 0 0 0) (fun k => by simp [selvageref06_Valid.j0]) ?_
        exact rvalid_loop n m s hs (by omega) (by omega) s.length 0 0 0 (by omega) (by omega) hn (by omega) hm
end Go.Proofs.Ytkoagpnoaibdjaa.Pure
namespace Go.Proofs.Ytkoagpnoaibdjaa.Pure
open Go.RowKit Go.Proofs.Ytkoagpnoaibdjaa.Pp Go.Proofs.Ytkoagpnoaibdjaa.Ext Go.Proofs.YtkoagpnoaibdjaaW.PrintWords Go.Proofs.YtkoagpnoaibdjaaW.PrintLast Go.Proofs.YtkoagpnoaibdjaaW.PrintMore
set_option linter.unusedVariables false
set_option linter.unusedSimpArgs false
theorem drop55 (s : List S55) (i : Nat) (h : i < s.length) : s.drop i = rd_T55 s (i : Int) :: s.drop (i + 1) := by
  unfold rd_T55
  rw [Int.toNat_natCast, List.getD_eq_getElem?_getD, List.getElem?_eq_getElem h]
  exact List.drop_eq_getElem_cons h
def runP (a b : Int) : Nat → List S55
  | 0 => []
  | d + 1 => ⟨a, b⟩ :: runP (a + 1) (b + 1) d
theorem runP_length (d : Nat) : ∀ a b, (runP a b d).length = d := by
  induction d with
  | zero => intro a b; rfl
  | succ d ih => intro a b; simp only [runP, List.length_cons, ih]
def pairsL (n : Int) : List S57 → Int → Int → List S55
  | [], a, b => runP a b (n - a).toNat
  | c :: t, a, b => runP a b (c.f0 - a).toNat ++ pairsL n t (c.f0 + c.f1) (c.f2 + c.f3)
theorem pairsL_length (n m : Int) : ∀ (s : List S57) (a b : Int), validP n m s a b → a ≤ n → ((pairsL n s a b).length : Int) ≤ n - a
  | [], a, b, _, h => by
    simp only [pairsL, runP_length]; omega
  | c :: t, a, b, hv, h => by
    obtain ⟨⟨h1, h2, h3, h4, h5, h6, h7, h8, h9, h10⟩, hv2⟩ := hv
    have := pairsL_length n m t (c.f0 + c.f1) (c.f2 + c.f3) hv2 (by omega)
    simp only [pairsL, List.length_append, runP_length]
    omega
theorem pairs_inner (s : List S57) (n : Int) (i : Nat) (tt : Int) (htt : tt ≤ 4194304) {v : List S55} (d : Nat) : ∀ (out : List S55) (a b : Int), a + (d : Int) = tt → 0 ≤ a → 0 ≤ b → b + (d : Int) ≤ 4194304 → out.length + d ≤ 8000000 →
    Ev (fun k => if (i : Int) < (s.length : Int) then (if 0 ≤ (i : Int) then selvageref06_pairs.l0 k s n (out ++ runP a b d) (wrap64 ((rd_T57 s (i : Int)).f0 + (rd_T57 s (i : Int)).f1)) (wrap64 ((rd_T57 s (i : Int)).f2 + (rd_T57 s (i : Int)).f3)) (wrap64 ((i : Int) + 1)) else none)
      else selvageref06_pairs.l0 k s n (out ++ runP a b d) tt (b + (d : Int)) (wrap64 ((i : Int) + 1))) v →
    Ev (fun k => selvageref06_pairs.l1 k s n out a b (i : Int) tt) v := by
  induction d with
  | zero =>
    intro out a b h ha hb hb2 ho he
    refine Ev.step (fun k => ?_) he
    obtain rfl : a = tt := by omega
    simp only [selvageref06_pairs.l1, runP, List.append_nil]
    rw [if_neg (by omega), show b + ((0 : Nat) : Int) = b by omega]
  | succ d ih =>
    intro out a b h ha hb hb2 ho he
    have e1 : wrap64 (a + 1) = a + 1 := w64' (by omega) (by omega)
    have e2 : wrap64 (b + 1) = b + 1 := w64' (by omega) (by omega)
    refine Ev.step (f := fun k => selvageref06_pairs.l1 k s n (out ++ [⟨a, b⟩]) (a + 1) (b + 1) (i : Int) tt) (fun k => ?_) (ih (out ++ [⟨a, b⟩]) (a + 1) (b + 1) (by omega) (by omega) (by omega) (by omega) (by rw [List.length_append, List.length_singleton]; omega) ?_)
    · simp only [selvageref06_pairs.l1, e1, e2]
      rw [if_pos (by omega), if_pos (by omega)]
    · have e : (out ++ [(⟨a, b⟩ : S55)]) ++ runP (a + 1) (b + 1) d = out ++ runP a b (d + 1) := by rw [List.append_assoc]; rfl
      rw [e, show b + 1 + (d : Int) = b + ((d + 1 : Nat) : Int) by omega]
      exact he
theorem pairs_loop (s : List S57) (n m : Int) (hn : n ≤ 4194304) (hm : m ≤ 4194304) (hs : s.length ≤ 4000000000) (d : Nat) : ∀ (i : Nat) (out : List S55) (a b : Int), i + d = s.length → validP n m (s.drop i) a b → 0 ≤ a → a ≤ n → 0 ≤ b → b ≤ m → (out.length : Int) ≤ a →
    Ev (fun k => selvageref06_pairs.l0 k s n out a b (i : Int)) (out ++ pairsL n (s.drop i) a b) := by
  have w1 : ∀ i : Nat, i ≤ 4000000000 → wrap64 ((i : Int) + 1) = ((i + 1 : Nat) : Int) := fun i h => w_add i 1 (by omega)
  induction d with
  | zero =>
    intro i out a b hd hv ha han hb hbm ho
    rw [List.drop_of_length_le (by omega)] at hv ⊢
    have hv' : n - a = m - b := hv
    refine Ev.step (f := fun k => selvageref06_pairs.j1 k s n out a b (i : Int) n) (fun k => ?_) ?_
    · simp only [selvageref06_pairs.l0]
      rw [if_pos (by omega), if_neg (by omega)]
    · refine Ev.step (f := fun k => selvageref06_pairs.l1 k s n out a b (i : Int) n) (fun k => by simp only [selvageref06_pairs.j1]) ?_
      refine pairs_inner s n i n hn (n - a).toNat out a b (by omega) ha hb (by omega) (by omega) ?_
      refine Ev.same (G := fun k => selvageref06_pairs.l0 k s n (out ++ runP a b (n - a).toNat) n (b + ((n - a).toNat : Int)) ((i + 1 : Nat) : Int)) (fun k => ?_) ?_
      · rw [if_neg (by omega), w1 i (by omega)]
      · refine Ev.step (f := fun _ => some (out ++ runP a b (n - a).toNat)) (fun k => ?_) (Ev.pure _)
        simp only [selvageref06_pairs.l0]
        rw [if_neg (by omega)]
  | succ d ih =>
    intro i out a b hd hv ha han hb hbm ho
    rw [drop57 s i (by omega)] at hv ⊢
    obtain ⟨⟨h1, h2, h3, h4, h5, h6, h7, h8, h9, h10⟩, hv2⟩ := hv
    have e5 : wrap64 ((rd_T57 s (i : Int)).f0 + (rd_T57 s (i : Int)).f1) = (rd_T57 s (i : Int)).f0 + (rd_T57 s (i : Int)).f1 := w64' (by omega) (by omega)
    have e6 : wrap64 ((rd_T57 s (i : Int)).f2 + (rd_T57 s (i : Int)).f3) = (rd_T57 s (i : Int)).f2 + (rd_T57 s (i : Int)).f3 := w64' (by omega) (by omega)
    refine Ev.step (f := fun k => selvageref06_pairs.j1 k s n out a b (i : Int) (rd_T57 s (i : Int)).f0) (fun k => ?_) ?_
    · simp only [selvageref06_pairs.l0]
      rw [if_pos (by omega), if_pos (by omega), if_pos (by omega)]
    · refine Ev.step (f := fun k => selvageref06_pairs.l1 k s n out a b (i : Int) (rd_T57 s (i : Int)).f0) (fun k => by simp only [selvageref06_pairs.j1]) ?_
      refine pairs_inner s n i _ (by omega) ((rd_T57 s (i : Int)).f0 - a).toNat out a b (by omega) ha hb (by omega) (by omega) ?_
      refine Ev.same (G := fun k => selvageref06_pairs.l0 k s n (out ++ runP a b ((rd_T57 s (i : Int)).f0 - a).toNat) ((rd_T57 s (i : Int)).f0 + (rd_T57 s (i : Int)).f1) ((rd_T57 s (i : Int)).f2 + (rd_T57 s (i : Int)).f3) ((i + 1 : Nat) : Int)) (fun k => ?_) ?_
      · rw [if_pos (by omega), if_pos (by omega), w1 i (by omega), e5, e6]
      · have := ih (i + 1) (out ++ runP a b ((rd_T57 s (i : Int)).f0 - a).toNat) _ _ (by omega) hv2 (by omega) (by omega) (by omega) (by omega) (by rw [List.length_append, runP_length]; omega)
        rw [List.append_assoc] at this
        exact this
def gap (a b x y : Int) : List S57 := if a < x ∨ b < y then [⟨a, x - a, b, y - b⟩] else []
theorem gap_none (a b : Int) : gap a b a b = [] := by unfold gap; rw [if_neg (by omega)]
theorem gap_some {a b x y : Int} (h : a < x ∨ b < y) : gap a b x y = [⟨a, x - a, b, y - b⟩] := by unfold gap; rw [if_pos h]
def ofS (n m : Int) : List S55 → Int → Int → List S57
  | [], a, b => gap a b n m
  | p :: t, a, b => gap a b p.f0 p.f1 ++ ofS n m t (p.f0 + 1) (p.f1 + 1)
def inO (n m : Int) : List S55 → Int → Int → Prop
  | [], _, _ => True
  | p :: t, a, b => a ≤ p.f0 ∧ b ≤ p.f1 ∧ p.f0 < n ∧ p.f1 < m ∧ inO n m t (p.f0 + 1) (p.f1 + 1)
theorem inO_weaken {n m : Int} {l : List S55} {a b a' b' : Int} (h : inO n m l a b) (ha : a' ≤ a) (hb : b' ≤ b) : inO n m l a' b' := by
  cases l with
  | nil => exact trivial
  | cons p t => obtain ⟨h1, h2, h3⟩ := h; exact ⟨by omega, by omega, h3⟩
theorem inO_run {n m : Int} {rest : List S55} (d : Nat) : ∀ (a b pa pb : Int), pa ≤ a → pb ≤ b → a + (d : Int) ≤ n → b + (d : Int) ≤ m → inO n m rest (a + (d : Int)) (b + (d : Int)) → inO n m (runP a b d ++ rest) pa pb := by
  induction d with
  | zero => intro a b pa pb h1 h2 h3 h4 h; exact inO_weaken h (by omega) (by omega)
  | succ d ih =>
    intro a b pa pb h1 h2 h3 h4 h
    refine ⟨h1, h2, by show a < n; omega, by show b < m; omega, ih (a + 1) (b + 1) (a + 1) (b + 1) (by omega) (by omega) (by omega) (by omega) ?_⟩
    rw [show a + 1 + (d : Int) = a + ((d + 1 : Nat) : Int) by omega, show b + 1 + (d : Int) = b + ((d + 1 : Nat) : Int) by omega]
    exact h
theorem inO_pairs (n m : Int) : ∀ (s : List S57) (a b : Int), validP n m s a b → a ≤ n → b ≤ m → inO n m (pairsL n s a b) a b
  | [], a, b, hv, ha, hb => by
    have hv' : n - a = m - b := hv
    have := inO_run (n := n) (m := m) (rest := []) (n - a).toNat a b a b (by omega) (by omega) (by omega) (by omega) trivial
    rw [List.append_nil] at this
    exact this
  | c :: t, a, b, hv, ha, hb => by
    obtain ⟨⟨h1, h2, h3, h4, h5, h6, h7, h8, h9, h10⟩, hv2⟩ := hv
    exact inO_run (c.f0 - a).toNat a b a b (by omega) (by omega) (by omega) (by omega) (inO_weaken (inO_pairs n m t _ _ hv2 (by omega) (by omega)) (by omega) (by omega))
theorem of_loop (n m : Int) (hn0 : 0 ≤ n) (hm0 : 0 ≤ m) (hn : n ≤ 4194304) (hm : m ≤ 4194304) (l : List S55) (hl : l.length ≤ 8000000) (d : Nat) : ∀ (i : Nat) (out : List S57) (a b : Int), i + d = l.length → inO n m (l.drop i) a b → 0 ≤ a → a ≤ n → 0 ≤ b → b ≤ m → out.length ≤ i →
    Ev (fun k => selvageref06_Of.l0 k l n m out a b (i : Int)) (out ++ ofS n m (l.drop i) a b, 0) := by
  have w1 : ∀ i : Nat, i ≤ 8000000 → wrap64 ((i : Int) + 1) = ((i + 1 : Nat) : Int) := fun i h => w_add i 1 (by omega)
  have wn : wrap64 (n + 1) = n + 1 := w64' (by omega) (by omega)
  have wm : wrap64 (m + 1) = m + 1 := w64' (by omega) (by omega)
  induction d with
  | zero =>
    intro i out a b hd hv ha han hb hbm ho
    rw [List.drop_of_length_le (by omega)]
    have e1 : wrap64 (n - a) = n - a := w64' (by omega) (by omega)
    have e2 : wrap64 (m - b) = m - b := w64' (by omega) (by omega)
    have last : ∀ o : List S57, Ev (fun k => selvageref06_Of.l0 k l n m o (n + 1) (m + 1) ((i + 1 : Nat) : Int)) (o, 0) := fun o =>
      Ev.step (f := fun _ => some (o, 0)) (fun k => by simp only [selvageref06_Of.l0]; rw [if_neg (by omega)]) (Ev.pure _)
    refine Ev.step (fun k => ?_) (last (out ++ gap a b n m))
    simp only [selvageref06_Of.l0, e1, e2, wn, wm, w1 i (by omega)]
    rw [if_pos (by omega), if_neg (by omega)]
    by_cases h1 : n > a
    · rw [if_pos h1, if_pos (by omega), gap_some (Or.inl h1)]
    · rw [if_neg h1]
      by_cases h2 : m > b
      · rw [if_pos h2, if_pos (by omega), gap_some (Or.inr h2)]
      · rw [if_neg h2]
        unfold gap
        rw [if_neg (by omega), List.append_nil]
  | succ d ih =>
    intro i out a b hd hv ha han hb hbm ho
    rw [drop55 l i (by omega)] at hv ⊢
    obtain ⟨h1, h2, h3, h4, hv2⟩ := hv
    generalize hp : rd_T55 l (i : Int) = p at h1 h2 h3 h4 hv2 ⊢
    have e1 : wrap64 (p.f0 - a) = p.f0 - a := w64' (by omega) (by omega)
    have e2 : wrap64 (p.f1 - b) = p.f1 - b := w64' (by omega) (by omega)
    have e3 : wrap64 (p.f0 + 1) = p.f0 + 1 := w64' (by omega) (by omega)
    have e4 : wrap64 (p.f1 + 1) = p.f1 + 1 := w64' (by omega) (by omega)
    refine Ev.step (f := fun k => selvageref06_Of.j2 k l n m out a b (i : Int) p.f0 p.f1 false) (fun k => ?_) ?_
    · simp only [selvageref06_Of.l0, hp]
      rw [if_pos (by omega), if_pos (by omega), if_pos (by omega), if_neg (by omega), if_neg (by omega), if_neg (by omega), decide_eq_false (by omega)]
    · have := ih (i + 1) (out ++ gap a b p.f0 p.f1) (p.f0 + 1) (p.f1 + 1) (by omega) hv2 (by omega) (by omega) (by omega) (by omega) (by
        rw [List.length_append]; unfold gap; split <;> simp <;> omega)
      rw [List.append_assoc] at this
      refine Ev.step (fun k => ?_) this
      simp only [selvageref06_Of.j2, e1, e2, e3, e4, w1 i (by omega)]
      rw [if_neg (by simp)]
      by_cases q1 : p.f0 > a
      · rw [if_pos q1, if_pos (by omega), gap_some (Or.inl q1)]
      · rw [if_neg q1]
        by_cases q2 : p.f1 > b
        · rw [if_pos q2, if_pos (by omega), gap_some (Or.inr q2)]
        · rw [if_neg q2]
          unfold gap
          rw [if_neg (by omega), List.append_nil]
theorem of_run (n m : Int) (rest : List S55) (d : Nat) : ∀ (a b pa pb : Int), ofS n m (runP a b (d + 1) ++ rest) pa pb = gap pa pb a b ++ ofS n m rest (a + (d : Int) + 1) (b + (d : Int) + 1) := by
  induction d with
  | zero => intro a b pa pb; rw [show a + ((0 : Nat) : Int) + 1 = a + 1 by omega, show b + ((0 : Nat) : Int) + 1 = b + 1 by omega]; rfl
  | succ d ih =>
    intro a b pa pb
    have := ih (a + 1) (b + 1) (a + 1) (b + 1)
    rw [gap_none, List.nil_append] at this
    rw [show a + ((d + 1 : Nat) : Int) + 1 = a + 1 + (d : Int) + 1 by omega, show b + ((d + 1 : Nat) : Int) + 1 = b + 1 + (d : Int) + 1 by omega, ← this]
    rfl
def nrm : List S57 → Int → Int → Int → Int → List S57
  | [], pa, pb, qa, qb => gap pa pb qa qb
  | c :: t, pa, pb, qa, qb => if qa < c.f0 then gap pa pb qa qb ++ nrm t c.f0 c.f2 (c.f0 + c.f1) (c.f2 + c.f3) else nrm t pa pb (c.f0 + c.f1) (c.f2 + c.f3)
theorem of_pairs (n m : Int) : ∀ (s : List S57) (pa pb qa qb : Int), validP n m s qa qb → qa ≤ n → ofS n m (pairsL n s qa qb) pa pb = nrm s pa pb qa qb
  | [], pa, pb, qa, qb, hv, h => by
    have hv' : n - qa = m - qb := hv
    simp only [pairsL, nrm]
    obtain ⟨d, hd⟩ : ∃ d, (n - qa).toNat = d := ⟨_, rfl⟩
    rw [hd]
    cases d with
    | zero => obtain rfl : n = qa := by omega
              obtain rfl : m = qb := by omega
              rfl
    | succ d =>
      have := of_run n m [] d qa qb pa pb
      rw [List.append_nil] at this
      rw [this, show qa + (d : Int) + 1 = n by omega, show qb + (d : Int) + 1 = m by omega]
      show _ ++ gap n m n m = _
      rw [gap_none, List.append_nil]
  | c :: t, pa, pb, qa, qb, hv, h => by
    obtain ⟨⟨h1, h2, h3, h4, h5, h6, h7, h8, h9, h10⟩, hv2⟩ := hv
    simp only [pairsL, nrm]
    by_cases q : qa < c.f0
    · obtain ⟨d, hd⟩ : ∃ d, (c.f0 - qa).toNat = d + 1 := ⟨(c.f0 - qa).toNat - 1, by omega⟩
      rw [if_pos q, hd, of_run, show qa + (d : Int) + 1 = c.f0 by omega, show qb + (d : Int) + 1 = c.f2 by omega, of_pairs n m t _ _ _ _ hv2 (by omega)]
    · rw [if_neg q, show (c.f0 - qa).toNat = 0 by omega]
      exact of_pairs n m t pa pb _ _ hv2 (by omega)
theorem of_at (l : List S55) (n m : Int) (hn0 : 0 ≤ n) (hm0 : 0 ≤ m) (hn : n ≤ 4194304) (hm : m ≤ 4194304) (hl : l.length ≤ 8000000) (hi : inO n m l 0 0) : Ev (fun k => selvageref06_Of.f k l n m) (ofS n m l 0 0, 0) := by
  refine Ev.same (G := fun k => selvageref06_Of.j0 k l n m false) (fun k => ?_) ?_
  · unfold selvageref06_Of.f
    rw [if_neg (by omega), if_neg (by omega), if_neg (by omega), decide_eq_false (by omega)]
  · refine Ev.step (f := fun k => selvageref06_Of.l0 k l n m [] 0 0 0) (fun k => by simp [selvageref06_Of.j0]) ?_
    have := of_loop n m hn0 hm0 hn hm l hl l.length 0 [] 0 0 (by omega) hi (by omega) hn0 (by omega) hm0 (by simp)
    rw [List.nil_append, List.drop_zero] at this
    exact this
theorem validS_none {s : List S57} {n m : Int} (h : validS s n m = none) : n ≤ 4194304 ∧ m ≤ 4194304 ∧ validP n m s 0 0 := by
  unfold validS at h
  split at h
  · cases h
  · rename_i hc
    refine ⟨by omega, by omega, ?_⟩
    unfold errP at h
    split at h
    · assumption
    · cases h
theorem validS_some {s : List S57} {n m : Int} {e : Int} (h : validS s n m = some e) : e ≠ 0 := by
  unfold validS errP at h
  split at h
  · cases h; decide
  · split at h
    · cases h
    · cases h; decide
noncomputable def normS (s : List S57) (n m : Int) : List S57 × Option Int := if (validS s n m).isNone = true then (nrm s 0 0 0 0, none) else ([], validS s n m)
theorem rnorm_at (s : List S57) (hs : s.length ≤ 4000000000) (n m : Int) (hn0 : 0 ≤ n) (hm0 : 0 ≤ m) : Ev (fun k => selvageref06_Normal.f k s n m) ((normS s n m).1, num (normS s n m).2) := by
  refine Ev.bind (rvalid_at s hs n m hn0 hm0) ?_
  unfold normS
  cases hv : validS s n m with
  | none =>
    obtain ⟨hn, hm, hp⟩ := validS_none hv
    refine Ev.same (G := fun k => (selvageref06_pairs.f k s n).bind fun t => (selvageref06_Of.f k t n m).bind fun bt => some (bt.1, bt.2)) (fun k => by rw [if_pos (show num none = 0 from rfl)]) ?_
    have h1 := pairs_loop s n m hn hm hs s.length 0 [] 0 0 (by omega) hp (by omega) hn0 (by omega) hm0 (by simp)
    rw [List.nil_append, List.drop_zero] at h1
    refine Ev.bind h1 ?_
    have hlen := pairsL_length n m s 0 0 hp hn0
    have h2 := of_at (pairsL n s 0 0) n m hn0 hm0 hn hm (by omega) (inO_pairs n m s 0 0 hp hn0 hm0)
    refine Ev.bind h2 ?_
    rw [of_pairs n m s 0 0 0 0 hp hn0]
    exact Ev.pure _
  | some e =>
    have he := validS_some hv
    refine Ev.same (G := fun _ => some ([], e)) (fun k => by rw [if_neg (show ¬ num (some e) = 0 from he)]; rfl) (Ev.pure _)
end Go.Proofs.Ytkoagpnoaibdjaa.Pure
namespace Go.Proofs.Ytkoagpnoaibdjaa.Pure
open Go.RowKit Go.Proofs.Ytkoagpnoaibdjaa.Pp Go.Proofs.Ytkoagpnoaibdjaa.Ext Go.Proofs.YtkoagpnoaibdjaaW.PrintWords Go.Proofs.YtkoagpnoaibdjaaW.PrintLast Go.Proofs.YtkoagpnoaibdjaaW.PrintMore
set_option linter.unusedVariables false
set_option linter.unusedSimpArgs false
theorem nrm_valid (n m : Int) : ∀ (s : List S57) (pa pb qa qb a b : Int), validP n m s qa qb → pa ≤ qa → pb ≤ qb → (pa < qa ∨ pb < qb) → a ≤ pa → b ≤ pb → pa - a = pb - b → qa ≤ n → qb ≤ m → validP n m (nrm s pa pb qa qb) a b
  | [], pa, pb, qa, qb, a, b, hv, h1, h2, h3, h4, h5, h6, h7, h8 => by
    have hv' : n - qa = m - qb := hv
    simp only [nrm]
    rw [gap_some h3]
    refine ⟨⟨?_, ?_, ?_, ?_, ?_, ?_, ?_, ?_, ?_, ?_⟩, ?_⟩
    all_goals first | (show n - (pa + (qa - pa)) = m - (pb + (qb - pb)); omega) | (simp only; omega)
  | c :: t, pa, pb, qa, qb, a, b, hv, h1, h2, h3, h4, h5, h6, h7, h8 => by
    obtain ⟨⟨q1, q2, q3, q4, q5, q6, q7, q8, q9, q10⟩, hv2⟩ := hv
    simp only [nrm]
    by_cases q : qa < c.f0
    · rw [if_pos q, gap_some h3]
      refine ⟨⟨?_, ?_, ?_, ?_, ?_, ?_, ?_, ?_, ?_, ?_⟩, ?_⟩
      all_goals first
        | (simp only; omega)
        | (show validP n m (nrm t c.f0 c.f2 (c.f0 + c.f1) (c.f2 + c.f3)) (pa + (qa - pa)) (pb + (qb - pb))
           rw [show pa + (qa - pa) = qa by omega, show pb + (qb - pb) = qb by omega]
           exact nrm_valid n m t _ _ _ _ _ _ hv2 (by omega) (by omega) (by omega) (by omega) (by omega) (by omega) (by omega) (by omega))
    · rw [if_neg q]
      exact nrm_valid n m t _ _ _ _ _ _ hv2 (by omega) (by omega) (by omega) (by omega) (by omega) (by omega) (by omega) (by omega)
theorem nrm_start (c : S57) (t : List S57) (n m : Int) (h : okC n m 0 0 c) : nrm (c :: t) 0 0 0 0 = nrm t c.f0 c.f2 (c.f0 + c.f1) (c.f2 + c.f3) := by
  obtain ⟨q1, q2, q3, q4, q5, q6, q7, q8, q9, q10⟩ := h
  simp only [nrm]
  by_cases q : 0 < c.f0
  · rw [if_pos q, gap_none, List.nil_append]
  · rw [if_neg q, show c.f0 = 0 by omega, show c.f2 = 0 by omega]
theorem nrm_valid0 (n m : Int) (s : List S57) (hv : validP n m s 0 0) : validP n m (nrm s 0 0 0 0) 0 0 := by
  cases s with
  | nil => show validP n m (gap 0 0 0 0) 0 0; rw [gap_none]; exact hv
  | cons c t =>
    obtain ⟨h, hv2⟩ := hv
    rw [nrm_start c t n m h]
    obtain ⟨q1, q2, q3, q4, q5, q6, q7, q8, q9, q10⟩ := h
    exact nrm_valid n m t _ _ _ _ _ _ hv2 (by omega) (by omega) (by omega) (by omega) (by omega) (by omega) (by omega) (by omega)
theorem gap_length (a b x y : Int) : (gap a b x y).length ≤ 1 := by unfold gap; split <;> simp
theorem nrm_length : ∀ (s : List S57) (pa pb qa qb : Int), (nrm s pa pb qa qb).length ≤ s.length + 1
  | [], pa, pb, qa, qb => gap_length _ _ _ _
  | c :: t, pa, pb, qa, qb => by
    simp only [nrm, List.length_cons]
    split
    · have := nrm_length t c.f0 c.f2 (c.f0 + c.f1) (c.f2 + c.f3)
      have := gap_length pa pb qa qb
      rw [List.length_append]; omega
    · have := nrm_length t pa pb (c.f0 + c.f1) (c.f2 + c.f3)
      omega
theorem normS_valid {s L : List S57} {n m : Int} (h : normS s n m = (L, none)) : n ≤ 4194304 ∧ m ≤ 4194304 ∧ validP n m L 0 0 ∧ L.length ≤ s.length + 1 := by
  unfold normS at h
  split at h
  · rename_i hc
    have hv : validS s n m = none := by simpa using hc
    obtain ⟨h1, h2, h3⟩ := validS_none hv
    obtain rfl : nrm s 0 0 0 0 = L := (Prod.mk.inj h).1
    exact ⟨h1, h2, nrm_valid0 n m s h3, nrm_length s 0 0 0 0⟩
  · rename_i hc
    have := (Prod.mk.inj h).2
    rw [this] at hc
    exact absurd rfl hc
theorem rpairs_at (L : List S57) (hL : L.length ≤ 4000000000) (n m : Int) (hn0 : 0 ≤ n) (hm0 : 0 ≤ m) (hn : n ≤ 4194304) (hm : m ≤ 4194304) (hv : validP n m L 0 0) : Ev (fun k => selvageref06_Pairs.f k L n m) (pairsL n L 0 0, 0) := by
  have h1 : validS L n m = none := by unfold validS; rw [if_neg (by omega), errP_pos hv]
  have h2 := rvalid_at L hL n m hn0 hm0
  rw [h1] at h2
  have h3 := pairs_loop L n m hn hm hL L.length 0 [] 0 0 (by omega) (by rw [List.drop_zero]; exact hv) (by omega) hn0 (by omega) hm0 (by simp)
  rw [List.drop_zero, List.nil_append] at h3
  exact Ev.bind h2 (Ev.same (fun k => if_pos rfl) (Ev.bind h3 (Ev.pure _)))
end Go.Proofs.Ytkoagpnoaibdjaa.Pure
namespace Go.Proofs.Ytkoagpnoaibdjaa.Pure
open Go.RowKit Go.Proofs.Ytkoagpnoaibdjaa.Pp Go.Proofs.Ytkoagpnoaibdjaa.Ext Go.Proofs.YtkoagpnoaibdjaaW.PrintWords Go.Proofs.YtkoagpnoaibdjaaW.PrintLast Go.Proofs.YtkoagpnoaibdjaaW.PrintMore
set_option linter.unusedVariables false
set_option linter.unusedSimpArgs false
abbrev Chg := S57
def putL (o : Int) (T : List ByteArray) : List Row := T.map fun t => ⟨o, t⟩
abbrev cut (T : List ByteArray) (a b : Int) : List ByteArray := (T.take b.toNat).drop a.toNat
theorem cut_length (T : List ByteArray) (a b : Int) (ha : 0 ≤ a) (hab : a ≤ b) (hb : b ≤ (T.length : Int)) : ((cut T a b).length : Int) = b - a := by
  unfold cut
  rw [List.length_drop, List.length_take]
  omega
theorem putL_length (o : Int) (T : List ByteArray) : (putL o T).length = T.length := List.length_map _
def rowsG (A B : List ByteArray) : Int → List Chg → Int → List Row
  | a, [], e => putL 1 (cut A a e)
  | a, c :: t, e => putL 1 (cut A a c.f0) ++ (putL 2 (cut A c.f0 (c.f0 + c.f1)) ++ (putL 3 (cut B c.f2 (c.f2 + c.f3)) ++ rowsG A B (c.f0 + c.f1) t e))
def okG (n m e : Int) : List Chg → Int → Int → Prop
  | [], a, b => a ≤ e ∧ e ≤ n ∧ b ≤ m
  | c :: t, a, b => (a ≤ c.f0 ∧ 0 ≤ c.f1 ∧ c.f0 + c.f1 ≤ n ∧ b ≤ c.f2 ∧ 0 ≤ c.f3 ∧ c.f2 + c.f3 ≤ m) ∧ okG n m e t (c.f0 + c.f1) (c.f2 + c.f3)
theorem r_put_at (o : Int) (T : List ByteArray) (hT : T.length ≤ 5000000) (d : Nat) : ∀ (i : Nat) (x : List Row), i + d = T.length → x.length + d ≤ 20000000 → Ev (fun k => selvageref10_put.l0 k x o T (i : Int)) (x ++ putL o (T.drop i)) := by
  induction d with
  | zero =>
    intro i x h _
    rw [List.drop_of_length_le (by omega)]
    exact Ev.step (f := fun _ => some x) (fun k => by rw [selvageref10_put.l0, if_neg (by omega)]) (by unfold putL; rw [List.map_nil, List.append_nil]; exact Ev.pure _)
  | succ d ih =>
    intro i x h hx
    have w1 : wrap64 ((i : Int) + 1) = ((i + 1 : Nat) : Int) := w_add i 1 (by omega)
    have hi : i < T.length := by omega
    have h2 := ih (i + 1) (x ++ [⟨o, T.getD i ByteArray.empty⟩]) (by omega) (by simp; omega)
    have e : x ++ putL o (T.drop i) = (x ++ [⟨o, T.getD i ByteArray.empty⟩]) ++ putL o (T.drop (i + 1)) := by
      rw [drop_by T ByteArray.empty i hi]; unfold putL; simp
    rw [e]
    exact Ev.step (fun k => by rw [selvageref10_put.l0, if_pos (by omega), if_pos (by omega), if_pos (by omega), rd_nat, w1]) h2
theorem r_put (o : Int) (T : List ByteArray) (hT : T.length ≤ 5000000) (x : List Row) (hx : x.length + T.length ≤ 20000000) : Ev (fun k => selvageref10_put.f k x o T) (x ++ putL o T) := by
  have := r_put_at o T hT T.length 0 x (by omega) hx
  rw [List.drop_zero] at this
  exact this
theorem rows_length (A B : List ByteArray) (e : Int) : ∀ (G : List Chg) (a b : Int), okG (A.length : Int) (B.length : Int) e G a b → 0 ≤ a → 0 ≤ b →
    ((rowsG A B a G e).length : Int) ≤ (e - a) + ((B.length : Int) - b)
  | [], a, b, h, ha, hb => by
    obtain ⟨h1, h2, h3⟩ := h
    have hl := cut_length A a e ha h1 h2
    rw [rowsG, putL_length]
    omega
  | c :: t, a, b, h, ha, hb => by
    obtain ⟨⟨q1, q2, q3, q4, q5, q6⟩, h2⟩ := h
    have hl1 := cut_length A a c.f0 ha q1 (by omega)
    have hl2 := cut_length A c.f0 (c.f0 + c.f1) (by omega) (by omega) q3
    have hl3 := cut_length B c.f2 (c.f2 + c.f3) (by omega) (by omega) q6
    have i1 := rows_length A B e t _ _ h2 (by omega) (by omega)
    rw [rowsG, List.length_append, List.length_append, List.length_append, putL_length, putL_length, putL_length]
    omega
abbrev HunkT := Int × Int × Int × Int × ByteArray × List Row
theorem len_cut (T : List ByteArray) (hT : T.length ≤ 4194304) (a b : Int) : (cut T a b).length ≤ 5000000 := by
  unfold cut; rw [List.length_drop, List.length_take]; omega
theorem len_cut_int (T : List ByteArray) (a b : Int) (ha : 0 ≤ a) (hab : a ≤ b) (hb : b ≤ (T.length : Int)) (x : List Row) (o : Int) : ((x ++ putL o (cut T a b)).length : Int) = (x.length : Int) + (b - a) := by
  rw [List.length_append, putL_length]; have := cut_length T a b ha hab hb; omega
theorem stated_at (a n : Int) (ha : -5000000000 ≤ a ∧ a ≤ 5000000000) : selvageref10_stated.f a n = some (if n > 0 then a + 1 else a) := by
  unfold selvageref10_stated.f
  have w : wrap64 (a + 1) = a + 1 := w64' (by omega) (by omega)
  by_cases h : n > 0
  · rw [if_pos h, if_pos h, w]
  · rw [if_neg h, if_neg h]
def oneR (st ns : Int) (R : List Row) : HunkT := ((if (cntOld R : Int) > 0 then st + 1 else st), (cntOld R : Int), (if (cntNew R : Int) > 0 then ns + 1 else ns), (cntNew R : Int), (⟨#[]⟩ : ByteArray), R)
theorem r_one_at (A B : List ByteArray) (hA : A.length ≤ 4194304) (hB : B.length ≤ 4194304) (st e ns : Int) (hst : 0 ≤ st ∧ st ≤ e) (G : List Chg) (hG : G.length ≤ 4000000000) (hG0 : 0 < G.length) (hns : wrap64 ((rd_T57 G 0).f2 - wrap64 ((rd_T57 G 0).f0 - st)) = ns) (hn2 : -1000000000 ≤ ns ∧ ns ≤ 1000000000) (d : Nat) :
    ∀ (i : Nat) (a b : Int) (x : List Row), i + d = G.length → okG (A.length : Int) (B.length : Int) e (G.drop i) a b → 0 ≤ a → 0 ≤ b → (x.length : Int) ≤ a + b →
    Ev (fun k => selvageref10_one.l0 k G A B st e x a (i : Int)) (oneR st ns (x ++ rowsG A B a (G.drop i) e)) := by
  induction d with
  | zero =>
    intro i a b x h hok ha hb hx
    rw [List.drop_of_length_le (by omega)] at hok ⊢
    obtain ⟨h1, h2, h3⟩ := hok
    have hl := len_cut A hA a e
    have c1 : ¬ (i : Int) < (G.length : Int) := by omega
    have c2 : (0 : Int) < (G.length : Int) := by omega
    have k1 := len_cut_int A a e ha h1 h2 x 1
    have hx4 : (x ++ putL 1 (cut A a e)).length ≤ 4000000000 := by omega
    refine Ev.step (fun k => by rw [selvageref10_one.l0, if_neg c1, if_pos ha, if_pos h1, if_pos h2]) (Ev.bind (r_put 1 (cut A a e) hl x (by omega)) (Ev.bind (r_counts _ hx4) ?_))
    rw [rowsG]
    refine Ev.same (fun k => ?_) (Ev.pure _)
    rw [if_pos c2, hns, stated_at _ _ (by omega), Option.bind_some, stated_at _ _ (by omega), Option.bind_some]
    rfl
  | succ d ih =>
    intro i a b x h hok ha hb hx
    have hi : i < G.length := by omega
    obtain ⟨c, hc⟩ : ∃ c, c = rd_T57 G (i : Int) := ⟨_, rfl⟩
    have hdr : G.drop i = c :: G.drop (i + 1) := by rw [hc]; exact drop57 G i hi
    rw [hdr] at hok ⊢
    obtain ⟨⟨q1, q2, q3, q4, q5, q6⟩, h2⟩ := hok
    have c1 : (i : Int) < (G.length : Int) := by omega
    have c0 : 0 ≤ (i : Int) := by omega
    have w1 : wrap64 ((i : Int) + 1) = ((i + 1 : Nat) : Int) := w_add i 1 (by omega)
    have w2 : wrap64 (c.f0 + c.f1) = c.f0 + c.f1 := w64' (by omega) (by omega)
    have w3 : wrap64 (c.f2 + c.f3) = c.f2 + c.f3 := w64' (by omega) (by omega)
    have k1 := len_cut_int A a c.f0 ha q1 (by omega) x 1
    have k2 := len_cut_int A c.f0 (c.f0 + c.f1) (by omega) (by omega) q3 (x ++ putL 1 (cut A a c.f0)) 2
    have k3 := len_cut_int B c.f2 (c.f2 + c.f3) (by omega) (by omega) q6 ((x ++ putL 1 (cut A a c.f0)) ++ putL 2 (cut A c.f0 (c.f0 + c.f1))) 3
    have l1 := len_cut A hA a c.f0
    have l2 := len_cut A hA c.f0 (c.f0 + c.f1)
    have l3 := len_cut B hB c.f2 (c.f2 + c.f3)
    have h9 := ih (i + 1) (c.f0 + c.f1) (c.f2 + c.f3) (((x ++ putL 1 (cut A a c.f0)) ++ putL 2 (cut A c.f0 (c.f0 + c.f1))) ++ putL 3 (cut B c.f2 (c.f2 + c.f3))) (by omega) h2 (by omega) (by omega) (by omega)
    have e9 : oneR st ns (x ++ rowsG A B a (c :: G.drop (i + 1)) e) = oneR st ns ((((x ++ putL 1 (cut A a c.f0)) ++ putL 2 (cut A c.f0 (c.f0 + c.f1))) ++ putL 3 (cut B c.f2 (c.f2 + c.f3))) ++ rowsG A B (c.f0 + c.f1) (G.drop (i + 1)) e) := by
      rw [rowsG, List.append_assoc, List.append_assoc, List.append_assoc]
    rw [e9]
    have b1 : c.f0 ≤ (A.length : Int) := by omega
    have b2 : 0 ≤ c.f0 := by omega
    have b3 : c.f0 ≤ c.f0 + c.f1 := by omega
    have b4 : 0 ≤ c.f2 := by omega
    have b5 : c.f2 ≤ c.f2 + c.f3 := by omega
    refine Ev.step (fun k => by rw [selvageref10_one.l0, if_pos c1, if_pos c0, ← hc, if_pos ha, if_pos q1, if_pos b1, w1, w2, w3]) (Ev.bind (r_put 1 (cut A a c.f0) l1 x (by omega)) ?_)
    refine Ev.same (fun k => by rw [if_pos b2, if_pos b3, if_pos q3]) (Ev.bind (r_put 2 (cut A c.f0 (c.f0 + c.f1)) l2 _ (by omega)) ?_)
    exact Ev.same (fun k => by rw [if_pos b4, if_pos b5, if_pos q6]) (Ev.bind (r_put 3 (cut B c.f2 (c.f2 + c.f3)) l3 _ (by omega)) h9)
def lastE : List Chg → Int → Int
  | [], z => z
  | c :: t, _ => lastE t (c.f0 + c.f1)
theorem lastE_rd : ∀ (G : List Chg) (z : Int), 0 < G.length → lastE G z = (rd_T57 G ((G.length - 1 : Nat) : Int)).f0 + (rd_T57 G ((G.length - 1 : Nat) : Int)).f1
  | [], z, h => absurd h (by simp)
  | [c], z, h => rfl
  | c :: c' :: t, z, h => by
    have := lastE_rd (c' :: t) (c.f0 + c.f1) (by simp)
    rw [lastE, this]
    show _ = ((c :: c' :: t).getD (((c :: c' :: t).length - 1 : Nat) : Int).toNat _).f0 + ((c :: c' :: t).getD (((c :: c' :: t).length - 1 : Nat) : Int).toNat _).f1
    show ((c' :: t).getD (((c' :: t).length - 1 : Nat) : Int).toNat _).f0 + ((c' :: t).getD (((c' :: t).length - 1 : Nat) : Int).toNat _).f1 = _
    rw [Int.toNat_natCast, Int.toNat_natCast, show (c :: c' :: t).length - 1 = ((c' :: t).length - 1) + 1 by simp, List.getD_cons_succ]
def okV (n m : Int) : List Chg → Int → Int → Prop
  | [], a, b => a ≤ n ∧ b ≤ m
  | c :: t, a, b => okC n m a b c ∧ okV n m t (c.f0 + c.f1) (c.f2 + c.f3)
theorem okV_okG (n m e : Int) (he : e ≤ n) : ∀ (t : List Chg) (a b a0 b0 : Int), okV n m t a b → a0 ≤ a → b0 ≤ b → lastE t a0 ≤ e → (t = [] → a0 ≤ e) → okG n m e t a0 b0
  | [], a, b, a0, b0, h, h1, h2, h3, h4 => by
    obtain ⟨p1, p2⟩ := h
    exact ⟨h3, he, by omega⟩
  | c :: t, a, b, a0, b0, h, h1, h2, h3, h4 => by
    obtain ⟨⟨q1, q2, q3, q4, q5, q6, q7, q8, q9, q10⟩, ht⟩ := h
    refine ⟨⟨by omega, q1, by omega, by omega, q2, by omega⟩, okV_okG n m e he t _ _ _ _ ht (Int.le_refl _) (Int.le_refl _) h3 (fun hn => ?_)⟩
    subst hn
    exact h3
theorem lastE_le (n m : Int) : ∀ (t : List Chg) (a b z : Int), okV n m t a b → z ≤ n → lastE t z ≤ n
  | [], a, b, z, h, hz => hz
  | c :: t, a, b, z, h, hz => by
    obtain ⟨⟨q1, q2, q3, q4, q5, q6, q7, q8, q9, q10⟩, ht⟩ := h
    exact lastE_le n m t _ _ _ ht (by omega)
theorem lastE_ge (n m : Int) : ∀ (t : List Chg) (a b z : Int), okV n m t a b → z ≤ a → z ≤ lastE t z
  | [], a, b, z, h, hz => Int.le_refl _
  | c :: t, a, b, z, h, hz => by
    obtain ⟨⟨q1, q2, q3, q4, q5, q6, q7, q8, q9, q10⟩, ht⟩ := h
    have := lastE_ge n m t _ _ (c.f0 + c.f1) ht (Int.le_refl _)
    rw [lastE]
    omega
theorem ends_at (n f0 le ctx : Int) (h0 : 0 ≤ ctx ∧ ctx ≤ 2147483647) (hf : 0 ≤ f0 ∧ f0 ≤ n) (hl : f0 ≤ le ∧ le ≤ n) (hn : n ≤ 4194304) : ∃ st e : Int, mx (wrap64 (f0 - ctx)) 0 = st ∧ wrap64 (f0 - mn ctx f0) = st ∧ wrap64 (n - le) = n - le ∧
    (ctx < n - le → wrap64 (le + ctx) = e) ∧ (¬ ctx < n - le → n = e) ∧ wrap64 (le + mn ctx (n - le)) = e ∧ 0 ≤ st ∧ st ≤ f0 ∧ le ≤ e ∧ e ≤ n := by
  have w1 : wrap64 (f0 - ctx) = f0 - ctx := w64' (by omega) (by omega)
  have w2 : wrap64 (n - le) = n - le := w64' (by omega) (by omega)
  have w3 : wrap64 (le + ctx) = le + ctx := w64' (by omega) (by omega)
  have w4 : wrap64 (le + (n - le)) = le + (n - le) := w64' (by omega) (by omega)
  have w5 : wrap64 (f0 - f0) = f0 - f0 := w64' (by omega) (by omega)
  refine ⟨if f0 < ctx then 0 else f0 - ctx, if ctx < n - le then le + ctx else n, ?_, ?_, w2, ?_, ?_, ?_, ?_, ?_, ?_, ?_⟩
  · rw [w1]; unfold mx; by_cases h : f0 < ctx
    · rw [if_pos (by omega), if_pos h]
    · rw [if_neg (by omega), if_neg h]
  · unfold mn; by_cases h : f0 < ctx
    · rw [if_pos h, if_pos h, w5]; omega
    · rw [if_neg h, if_neg h, w1]
  · intro h; rw [if_pos h, w3]
  · intro h; rw [if_neg h]
  · unfold mn; by_cases h : n - le < ctx
    · rw [if_pos h, w4, if_neg (by omega)]; omega
    · rw [if_neg h, w3]; by_cases h2 : ctx < n - le
      · rw [if_pos h2]
      · rw [if_neg h2]; omega
  · split <;> omega
  · split <;> omega
  · split <;> omega
  · split <;> omega
end Go.Proofs.Ytkoagpnoaibdjaa.Pure
namespace Go.Proofs.Ytkoagpnoaibdjaa.Pure
open Go.RowKit Go.Proofs.Ytkoagpnoaibdjaa.Pp Go.Proofs.Ytkoagpnoaibdjaa.Ext Go.Proofs.YtkoagpnoaibdjaaW.PrintWords Go.Proofs.YtkoagpnoaibdjaaW.PrintLast Go.Proofs.YtkoagpnoaibdjaaW.PrintMore
set_option linter.unusedVariables false
set_option linter.unusedSimpArgs false
theorem cut_get? (T : List ByteArray) (a b : Int) (i : Nat) : (cut T a b)[i]? = if a.toNat + i < b.toNat then T[a.toNat + i]? else none := by
  unfold cut
  rw [List.getElem?_drop, List.getElem?_take]
theorem cut_app (T : List ByteArray) (a b c : Int) (ha : 0 ≤ a) (hab : a ≤ b) (hbc : b ≤ c) (hc : c ≤ (T.length : Int)) : cut T a b ++ cut T b c = cut T a c := by
  have h1 := cut_length T a b ha hab (by omega)
  apply List.ext_getElem?
  intro i
  rw [List.getElem?_append, cut_get? T a c]
  by_cases h : i < (cut T a b).length
  · rw [if_pos h, cut_get?, if_pos (by omega), if_pos (by omega)]
  · rw [if_neg h, cut_get?]
    by_cases h2 : a.toNat + i < c.toNat
    · rw [if_pos (by omega), if_pos h2]
      congr 1
      omega
    · rw [if_neg (by omega), if_neg h2]
theorem cut_self (T : List ByteArray) (a : Int) : cut T a a = [] := by
  unfold cut
  rw [List.drop_eq_nil_iff, List.length_take]
  omega
theorem cut_all (T : List ByteArray) : cut T 0 (T.length : Int) = T := by
  unfold cut
  rw [Int.toNat_natCast, List.take_length]
  rfl
def agree (A B : List ByteArray) (a b d : Int) : Prop := ∀ i : Int, 0 ≤ i → i < d → A.getD (a + i).toNat ByteArray.empty = B.getD (b + i).toNat ByteArray.empty
theorem agree_sub {A B : List ByteArray} {a b d : Int} (h : agree A B a b d) (s d' : Int) (hs : 0 ≤ s) (hd : s + d' ≤ d) : agree A B (a + s) (b + s) d' := fun i h0 h1 => by
  have := h (s + i) (by omega) (by omega)
  rw [show a + s + i = a + (s + i) by omega, show b + s + i = b + (s + i) by omega]
  exact this
theorem agree_cut {A B : List ByteArray} {a b d : Int} (h : agree A B a b d) (ha : 0 ≤ a) (hb : 0 ≤ b) (hd : 0 ≤ d) (h1 : a + d ≤ (A.length : Int)) (h2 : b + d ≤ (B.length : Int)) : cut A a (a + d) = cut B b (b + d) := by
  apply List.ext_getElem?
  intro i
  rw [cut_get?, cut_get?]
  by_cases hi : (i : Int) < d
  · rw [if_pos (by omega), if_pos (by omega)]
    have := h i (by omega) hi
    rw [show (a + (i : Int)).toNat = a.toNat + i by omega, show (b + (i : Int)).toNat = b.toNat + i by omega, List.getD_eq_getElem?_getD, List.getD_eq_getElem?_getD, List.getElem?_eq_getElem (by omega), List.getElem?_eq_getElem (by omega)] at this
    rw [List.getElem?_eq_getElem (by omega), List.getElem?_eq_getElem (by omega)]
    exact congrArg some this
  · rw [if_neg (by omega), if_neg (by omega)]
theorem oldS_app (x y : List Row) : oldS (x ++ y) = oldS x ++ oldS y := by unfold oldS; rw [List.filter_append, List.map_append]
theorem newS_app (x y : List Row) : newS (x ++ y) = newS x ++ newS y := by unfold newS; rw [List.filter_append, List.map_append]
theorem oldS_cons (r : Row) (t : List Row) : oldS (r :: t) = if isOld r = true then r.f1 :: oldS t else oldS t := by
  unfold oldS
  rw [List.filter_cons]
  split <;> rfl
theorem newS_cons (r : Row) (t : List Row) : newS (r :: t) = if isNew r = true then r.f1 :: newS t else newS t := by
  unfold newS
  rw [List.filter_cons]
  split <;> rfl
theorem oldS_put1 (T : List ByteArray) : oldS (putL 1 T) = T := by
  induction T with
  | nil => rfl
  | cons s t ih => show oldS ((⟨1, s⟩ : Row) :: putL 1 t) = _; rw [oldS_cons, if_pos (show isOld (⟨1, s⟩ : Row) = true from rfl), ih]
theorem oldS_put2 (T : List ByteArray) : oldS (putL 2 T) = T := by
  induction T with
  | nil => rfl
  | cons s t ih => show oldS ((⟨2, s⟩ : Row) :: putL 2 t) = _; rw [oldS_cons, if_pos (show isOld (⟨2, s⟩ : Row) = true from rfl), ih]
theorem oldS_put3 (T : List ByteArray) : oldS (putL 3 T) = [] := by
  induction T with
  | nil => rfl
  | cons s t ih => show oldS ((⟨3, s⟩ : Row) :: putL 3 t) = _; rw [oldS_cons, if_neg (by simp [isOld]), ih]
theorem newS_put1 (T : List ByteArray) : newS (putL 1 T) = T := by
  induction T with
  | nil => rfl
  | cons s t ih => show newS ((⟨1, s⟩ : Row) :: putL 1 t) = _; rw [newS_cons, if_pos (show isNew (⟨1, s⟩ : Row) = true from rfl), ih]
theorem newS_put3 (T : List ByteArray) : newS (putL 3 T) = T := by
  induction T with
  | nil => rfl
  | cons s t ih => show newS ((⟨3, s⟩ : Row) :: putL 3 t) = _; rw [newS_cons, if_pos (show isNew (⟨3, s⟩ : Row) = true from rfl), ih]
theorem newS_put2 (T : List ByteArray) : newS (putL 2 T) = [] := by
  induction T with
  | nil => rfl
  | cons s t ih => show newS ((⟨2, s⟩ : Row) :: putL 2 t) = _; rw [newS_cons, if_neg (by simp [isNew]), ih]
theorem put_kind (o : Int) (T : List ByteArray) : ∀ r ∈ putL o T, r.f0 = o := fun r hr => by
  obtain ⟨t, _, rfl⟩ := List.mem_map.mp hr
  rfl
theorem cntOld_sides (l : List Row) : cntOld l = (oldS l).length := by unfold cntOld oldS; rw [List.countP_eq_length_filter, List.length_map]
theorem cntNew_sides (l : List Row) : cntNew l = (newS l).length := by unfold cntNew newS; rw [List.countP_eq_length_filter, List.length_map]
def comG (A B : List ByteArray) (e : Int) : List Chg → Int → Int → Prop
  | [], a, b => agree A B a b (e - a)
  | c :: t, a, b => agree A B a b (c.f0 - a) ∧ comG A B e t (c.f0 + c.f1) (c.f2 + c.f3)
def lastB : List Chg → Int → Int
  | [], z => z
  | c :: t, _ => lastB t (c.f2 + c.f3)
theorem rows_old (A B : List ByteArray) (e : Int) (he : e ≤ (A.length : Int)) : ∀ (G : List Chg) (a b : Int), okV (A.length : Int) (B.length : Int) G a b → 0 ≤ a → 0 ≤ b → lastE G a ≤ e → oldS (rowsG A B a G e) = cut A a e
  | [], a, b, h, ha, hb, hl => by rw [rowsG, oldS_put1]
  | c :: t, a, b, h, ha, hb, hl => by
    obtain ⟨⟨q1, q2, q3, q4, q5, q6, q7, q8, q9, q10⟩, ht⟩ := h
    have hg := lastE_ge _ _ t _ _ (c.f0 + c.f1) ht (Int.le_refl _)
    have hl' : lastE t (c.f0 + c.f1) ≤ e := hl
    rw [rowsG, oldS_app, oldS_app, oldS_app, oldS_put1, oldS_put2, oldS_put3, List.nil_append, rows_old A B e he t _ _ ht (by omega) (by omega) hl,
      cut_app A c.f0 (c.f0 + c.f1) e (by omega) (by omega) (by omega) he, cut_app A a c.f0 e ha q4 (by omega) he]
theorem lastB_rel (n m : Int) : ∀ (G : List Chg) (a b z y : Int), okV n m G a b → y ≤ b → y ≤ lastB G y
  | [], a, b, z, y, h, hy => Int.le_refl _
  | c :: t, a, b, z, y, h, hy => by
    obtain ⟨⟨q1, q2, q3, q4, q5, q6, q7, q8, q9, q10⟩, ht⟩ := h
    have := lastB_rel n m t _ _ z (c.f2 + c.f3) ht (Int.le_refl _)
    rw [lastB]
    omega
theorem rows_new (A B : List ByteArray) (e : Int) (he : e ≤ (A.length : Int)) : ∀ (G : List Chg) (a b : Int), okV (A.length : Int) (B.length : Int) G a b → 0 ≤ a → 0 ≤ b → lastE G a ≤ e → comG A B e G a b → lastB G b + (e - lastE G a) ≤ (B.length : Int) →
    newS (rowsG A B a G e) = cut B b (lastB G b + (e - lastE G a))
  | [], a, b, h, ha, hb, hl, hc, hm => by
    have hl' : a ≤ e := hl
    have hm' : b + (e - a) ≤ (B.length : Int) := hm
    have := agree_cut hc ha hb (by omega) (by omega) hm'
    rw [rowsG, newS_put1]
    rw [show a + (e - a) = e by omega] at this
    exact this
  | c :: t, a, b, h, ha, hb, hl, hc, hm => by
    obtain ⟨⟨q1, q2, q3, q4, q5, q6, q7, q8, q9, q10⟩, ht⟩ := h
    obtain ⟨hc1, hc2⟩ := hc
    have hg := lastE_ge _ _ t _ _ (c.f0 + c.f1) ht (Int.le_refl _)
    have hl' : lastE t (c.f0 + c.f1) ≤ e := hl
    have hm' : lastB t (c.f2 + c.f3) + (e - lastE t (c.f0 + c.f1)) ≤ (B.length : Int) := hm
    have hk := lastB_rel _ _ t _ _ 0 (c.f2 + c.f3) ht (Int.le_refl _)
    have h1 := agree_cut hc1 ha hb (by omega) (by omega) (by omega)
    rw [show a + (c.f0 - a) = c.f0 by omega, show b + (c.f0 - a) = c.f2 by omega] at h1
    rw [rowsG, newS_app, newS_app, newS_app, newS_put1, newS_put2, newS_put3, List.nil_append, rows_new A B e he t _ _ ht (by omega) (by omega) hl hc2 hm', h1]
    show cut B b c.f2 ++ (cut B c.f2 (c.f2 + c.f3) ++ cut B (c.f2 + c.f3) (lastB t (c.f2 + c.f3) + (e - lastE t (c.f0 + c.f1)))) = _
    rw [cut_app B c.f2 (c.f2 + c.f3) _ (by omega) (by omega) (by omega) hm', cut_app B b c.f2 _ hb q6 (by omega) hm']
    rfl
theorem rows_kinds (A B : List ByteArray) (e : Int) : ∀ (G : List Chg) (a : Int), ∀ r ∈ rowsG A B a G e, r.f0 = 1 ∨ r.f0 = 2 ∨ r.f0 = 3
  | [], a, r, hr => Or.inl (put_kind 1 _ r hr)
  | c :: t, a, r, hr => by
    rw [rowsG] at hr
    rcases List.mem_append.mp hr with h | h
    · exact Or.inl (put_kind 1 _ r h)
    rcases List.mem_append.mp h with h | h
    · exact Or.inr (Or.inl (put_kind 2 _ r h))
    rcases List.mem_append.mp h with h | h
    · exact Or.inr (Or.inr (put_kind 3 _ r h))
    exact rows_kinds A B e t _ r h
theorem rows_change (A B : List ByteArray) (e a b : Int) (c : Chg) (t : List Chg) (h : okC (A.length : Int) (B.length : Int) a b c) (ha : 0 ≤ a) (hb : 0 ≤ b) : ∃ r ∈ rowsG A B a (c :: t) e, r.f0 ≠ 1 := by
  obtain ⟨q1, q2, q3, q4, q5, q6, q7, q8, q9, q10⟩ := h
  rw [rowsG]
  by_cases h1 : c.f1 = 0
  · have hl := cut_length B c.f2 (c.f2 + c.f3) (by omega) (by omega) (by omega)
    cases hc : cut B c.f2 (c.f2 + c.f3) with
    | nil => rw [hc] at hl; simp at hl; omega
    | cons s r => exact ⟨⟨3, s⟩, List.mem_append_right _ (List.mem_append_right _ (List.mem_append_left _ List.mem_cons_self)), (show (3 : Int) ≠ 1 by decide)⟩
  · have hl := cut_length A c.f0 (c.f0 + c.f1) (by omega) (by omega) (by omega)
    cases hc : cut A c.f0 (c.f0 + c.f1) with
    | nil => rw [hc] at hl; simp at hl; omega
    | cons s r => exact ⟨⟨2, s⟩, List.mem_append_right _ (List.mem_append_left _ List.mem_cons_self), (show (2 : Int) ≠ 1 by decide)⟩
theorem valid_drop : ∀ (l : List ByteArray) (n : Nat), validL l = true → validL (l.drop n) = true
  | l, 0, h => h
  | [], n + 1, h => h
  | s :: t, n + 1, h => by
    rw [validL, Bool.and_eq_true] at h
    exact valid_drop t n h.2
theorem valid_take : ∀ (l : List ByteArray) (n : Nat), validL l = true → validL (l.take n) = true
  | l, 0, h => rfl
  | [], n + 1, h => h
  | s :: t, n + 1, h => by
    rw [validL, Bool.and_eq_true, Bool.and_eq_true, Bool.or_eq_true] at h
    obtain ⟨⟨h1, h2⟩, h3⟩ := h
    rw [List.take_succ_cons, validL, h1, valid_take t n h3, Bool.true_and, Bool.and_true, Bool.or_eq_true]
    rcases h2 with h2 | h2
    · left
      cases t with
      | nil => rw [List.take_nil]; rfl
      | cons => cases h2
    · exact Or.inr h2
theorem valid_cut {l : List ByteArray} (h : validL l = true) (a b : Int) : validL (cut l a b) = true := valid_drop _ _ (valid_take _ _ h)
theorem rowsOk_of : ∀ (R : List Row) (e o ch : Bool), (∀ r ∈ R, r.f0 = 1 ∨ r.f0 = 2 ∨ r.f0 = 3) → (e = true → oldS R = []) → (o = true → newS R = []) → validL (oldS R) = true → validL (newS R) = true → (ch = true ∨ ∃ r ∈ R, r.f0 ≠ 1) → rowsOk R e o ch = true
  | [], e, o, ch, hk, he, ho, hv, hw, hc => by
    rcases hc with hc | ⟨r, hr, _⟩
    · rw [rowsOk]; exact hc
    · cases hr
  | r :: t, e, o, ch, hk, he, ho, hv, hw, hc => by
    have hkt : ∀ x ∈ t, x.f0 = 1 ∨ x.f0 = 2 ∨ x.f0 = 3 := fun x hx => hk x (List.mem_cons_of_mem _ hx)
    have hch : (ch || (r.f0 != 1)) = true ∨ ∃ x ∈ t, x.f0 ≠ 1 := by
      rcases hc with hc | ⟨x, hx, hx1⟩
      · left; rw [hc]; rfl
      · rcases List.mem_cons.mp hx with rfl | hx
        · left; rw [bne_iff_ne.mpr hx1, Bool.or_true]
        · exact Or.inr ⟨x, hx, hx1⟩
    rw [oldS_cons] at he hv
    rw [newS_cons] at ho hw
    have hv2 : ∀ (b : Bool) (s : ByteArray) (q : List ByteArray), b = true → validL (if b = true then s :: q else q) = true → line s = true ∧ validL q = true ∧ (whole s = false → q = []) := by
      intro b s q hb h
      rw [if_pos hb, validL, Bool.and_eq_true, Bool.and_eq_true, Bool.or_eq_true] at h
      obtain ⟨⟨h1, h2⟩, h3⟩ := h
      refine ⟨h1, h3, fun hf => ?_⟩
      rw [hf] at h2
      cases q with
      | nil => rfl
      | cons => rcases h2 with h2 | h2 <;> cases h2
    rw [rowsOk]
    rcases kinds r with ⟨k, i1, i2⟩ | ⟨k, i1, i2⟩ | ⟨k, i1, i2⟩ | ⟨⟨k1, k2, k3⟩, _, _⟩
    · obtain ⟨l1, v1, w1⟩ := hv2 _ _ _ i1 hv
      obtain ⟨l2, v2, w2⟩ := hv2 _ _ _ i2 hw
      have e0 : e = false := by cases e with
        | false => rfl
        | true => have := he rfl; rw [if_pos i1] at this; cases this
      have o0 : o = false := by cases o with
        | false => rfl
        | true => have := ho rfl; rw [if_pos i2] at this; cases this
      subst e0 o0
      have hg : good r false false = true := by unfold good; rw [i1, i2, l1]; rfl
      rw [if_pos hg]
      refine rowsOk_of t _ _ _ hkt (fun h => ?_) (fun h => ?_) v1 v2 hch
      · rw [i1] at h; exact w1 (by simpa using h)
      · rw [i2] at h; exact w2 (by simpa using h)
    · obtain ⟨l1, v1, w1⟩ := hv2 _ _ _ i1 hv
      rw [if_neg (by rw [i2]; simp)] at hw ho
      have e0 : e = false := by cases e with
        | false => rfl
        | true => have := he rfl; rw [if_pos i1] at this; cases this
      subst e0
      have hg : good r false o = true := by unfold good; rw [i1, i2, l1]; rfl
      rw [if_pos hg]
      refine rowsOk_of t _ _ _ hkt (fun h => ?_) (fun h => ?_) v1 hw hch
      · rw [i1] at h; exact w1 (by simpa using h)
      · rw [i2] at h; exact ho (by simpa using h)
    · obtain ⟨l2, v2, w2⟩ := hv2 _ _ _ i2 hw
      rw [if_neg (by rw [i1]; simp)] at hv he
      have o0 : o = false := by cases o with
        | false => rfl
        | true => have := ho rfl; rw [if_pos i2] at this; cases this
      subst o0
      have hg : good r e false = true := by unfold good; rw [i1, i2, l2]; rfl
      rw [if_pos hg]
      refine rowsOk_of t _ _ _ hkt (fun h => ?_) (fun h => ?_) hv v2 hch
      · rw [i1] at h; exact he (by simpa using h)
      · rw [i2] at h; exact w2 (by simpa using h)
    · rcases hk r List.mem_cons_self with h | h | h
      · exact absurd h k1
      · exact absurd h k2
      · exact absurd h k3
end Go.Proofs.Ytkoagpnoaibdjaa.Pure
namespace Go.Proofs.Ytkoagpnoaibdjaa.Pure
open Go.RowKit Go.Proofs.Ytkoagpnoaibdjaa.Pp Go.Proofs.Ytkoagpnoaibdjaa.Ext Go.Proofs.YtkoagpnoaibdjaaW.PrintWords Go.Proofs.YtkoagpnoaibdjaaW.PrintLast Go.Proofs.YtkoagpnoaibdjaaW.PrintMore
set_option linter.unusedVariables false
set_option linter.unusedSimpArgs false
structure Piece (A B : List ByteArray) (h : Hunk) (st e s2 e2 : Int) : Prop where
  a0 : 0 ≤ st
  a1 : st ≤ e
  a2 : e ≤ (A.length : Int)
  b0 : 0 ≤ s2
  b1 : s2 ≤ e2
  b2 : e2 ≤ (B.length : Int)
  old : oldS h.f5 = cut A st e
  new : newS h.f5 = cut B s2 e2
  f0 : h.f0 = if e - st > 0 then st + 1 else st
  f1 : h.f1 = e - st
  f2 : h.f2 = if e2 - s2 > 0 then s2 + 1 else s2
  f3 : h.f3 = e2 - s2
  f4 : h.f4 = (⟨#[]⟩ : ByteArray)
  kinds : ∀ r ∈ h.f5, r.f0 = 1 ∨ r.f0 = 2 ∨ r.f0 = 3
  change : ∃ r ∈ h.f5, r.f0 ≠ 1
def HL (A B : List ByteArray) : List Hunk → Int → Int → Prop
  | [], a, b => a ≤ (A.length : Int) ∧ b ≤ (B.length : Int) ∧ cut A a (A.length : Int) = cut B b (B.length : Int)
  | h :: t, a, b => ∃ st e s2 e2, Piece A B h st e s2 e2 ∧ a ≤ st ∧ b ≤ s2 ∧ cut A a st = cut B b s2 ∧ HL A B t e e2
theorem comG_end {A B : List ByteArray} (x e : Int) : ∀ (G : List Chg) (a b : Int), comG A B x G a b → lastE G a ≤ e → e ≤ x → comG A B e G a b
  | [], a, b, h, h1, h2 => by
    have := agree_sub h 0 (e - a) (Int.le_refl _) (by omega)
    rw [Int.add_zero, Int.add_zero] at this
    exact this
  | c :: t, a, b, h, h1, h2 => ⟨h.1, comG_end x e t _ _ h.2 h1 h2⟩
theorem comG_split {A B : List ByteArray} (n x : Int) : ∀ (G R : List Chg) (a b : Int), comG A B n (G ++ R) a b → (∀ c t, R = c :: t → x = c.f0) → (R = [] → x = n) → comG A B x G a b ∧ comG A B n R (lastE G a) (lastB G b)
  | [], R, a, b, h, h1, h2 => by
    refine ⟨?_, h⟩
    cases R with
    | nil => rw [h2 rfl]; exact h
    | cons c t => rw [h1 c t rfl]; exact h.1
  | c :: t, R, a, b, h, h1, h2 => by
    obtain ⟨i1, i2⟩ := comG_split n x t R _ _ h.2 h1 h2
    exact ⟨⟨h.1, i1⟩, i2⟩
theorem valid_split (n m : Int) : ∀ (G R : List Chg) (a b : Int), validP n m (G ++ R) a b → a ≤ n → b ≤ m → okV n m G a b ∧ validP n m R (lastE G a) (lastB G b) ∧ lastE G a ≤ n ∧ lastB G b ≤ m
  | [], R, a, b, h, h1, h2 => ⟨⟨h1, h2⟩, h, h1, h2⟩
  | c :: t, R, a, b, h, h1, h2 => by
    obtain ⟨hc, ht⟩ := h
    have hc' := hc
    obtain ⟨q1, q2, q3, q4, q5, q6, q7, q8, q9, q10⟩ := hc'
    obtain ⟨i1, i2, i3, i4⟩ := valid_split n m t R _ _ ht (by omega) (by omega)
    exact ⟨⟨hc, i1⟩, i2, i3, i4⟩
theorem okV_start (n m : Int) (c : Chg) (t : List Chg) (a b st : Int) (h : okV n m (c :: t) a b) (h1 : st ≤ c.f0) : okV n m (c :: t) st (c.f2 - (c.f0 - st)) := by
  obtain ⟨⟨q1, q2, q3, q4, q5, q6, q7, q8, q9, q10⟩, ht⟩ := h
  exact ⟨⟨q1, q2, q3, h1, q5, by omega, q7, by omega, q9, q10⟩, ht⟩
theorem st_ge (n f0 ctx st : Int) (h0 : 0 ≤ ctx ∧ ctx ≤ 2147483647) (hf : 0 ≤ f0 ∧ f0 ≤ n) (hn : n ≤ 4194304) (h : mx (wrap64 (f0 - ctx)) 0 = st) : f0 - ctx ≤ st := by
  have w : wrap64 (f0 - ctx) = f0 - ctx := w64' (by omega) (by omega)
  rw [w] at h
  unfold mx at h
  split at h <;> omega
theorem e_le (n le ctx e : Int) (h0 : 0 ≤ ctx ∧ ctx ≤ 2147483647) (hl : 0 ≤ le ∧ le ≤ n) (hn : n ≤ 4194304) (h1 : ctx < n - le → wrap64 (le + ctx) = e) (h2 : ¬ ctx < n - le → n = e) : e ≤ le + ctx := by
  by_cases h : ctx < n - le
  · have w : wrap64 (le + ctx) = le + ctx := w64' (by omega) (by omega)
    have := h1 h
    omega
  · have := h2 h
    omega
theorem one_piece (A B : List ByteArray) (hA : A.length ≤ 4194304) (hB : B.length ≤ 4194304) (c : Chg) (t : List Chg) (hlen : (c :: t).length ≤ 4000000000) (a b : Int) (hv : okV (A.length : Int) (B.length : Int) (c :: t) a b) (ha : 0 ≤ a) (hb : 0 ≤ b) (ctx : Int) (h0 : 0 ≤ ctx ∧ ctx ≤ 2147483647)
    (hgap : a ≤ 0 ∨ a ≤ c.f0 - ctx) (x : Int) (hx : lastE t (c.f0 + c.f1) + ctx ≤ x ∨ x = (A.length : Int)) (hxn : x ≤ (A.length : Int)) (hxm : lastB t (c.f2 + c.f3) + (x - lastE t (c.f0 + c.f1)) ≤ (B.length : Int)) :
    ∃ (R : HunkT) (st e : Int), Ev (fun k => selvageref10_one.f k (c :: t) A B ctx) R ∧ R.2.2.2.2.2.length ≤ 4000000000 ∧ (comG A B x (c :: t) a b → Piece A B ⟨R.1, R.2.1, R.2.2.1, R.2.2.2.1, R.2.2.2.2.1, R.2.2.2.2.2⟩ st e (c.f2 - (c.f0 - st)) (lastB t (c.f2 + c.f3) + (e - lastE t (c.f0 + c.f1)))) ∧
      0 ≤ st ∧ 0 ≤ c.f2 - (c.f0 - st) ∧ e ≤ (A.length : Int) ∧ lastB t (c.f2 + c.f3) + (e - lastE t (c.f0 + c.f1)) ≤ (B.length : Int) ∧ c.f0 - ctx ≤ st ∧ st ≤ c.f0 ∧ a ≤ st ∧ lastE t (c.f0 + c.f1) ≤ e ∧ e ≤ lastE t (c.f0 + c.f1) + ctx ∧ e ≤ x := by
  have hv0 := hv
  obtain ⟨⟨q1, q2, q3, q4, q5, q6, q7, q8, q9, q10⟩, ht⟩ := hv0
  have g1 := lastE_ge _ _ t _ _ (c.f0 + c.f1) ht (Int.le_refl _)
  have g2 := lastE_le _ _ t _ _ (c.f0 + c.f1) ht (by omega)
  have g3 := lastB_rel _ _ t _ _ 0 (c.f2 + c.f3) ht (Int.le_refl _)
  have hle := lastE_rd (c :: t) 0 (by simp)
  obtain ⟨le, hled⟩ : ∃ le, le = lastE t (c.f0 + c.f1) := ⟨_, rfl⟩
  obtain ⟨lb, hlbd⟩ : ∃ lb, lb = lastB t (c.f2 + c.f3) := ⟨_, rfl⟩
  have hle2 : (rd_T57 (c :: t) (((c :: t).length - 1 : Nat) : Int)).f0 + (rd_T57 (c :: t) (((c :: t).length - 1 : Nat) : Int)).f1 = le := by rw [← hle, hled]; rfl
  rw [← hled] at g1 g2 hx hxm ⊢
  rw [← hlbd] at g3 hxm ⊢
  obtain ⟨st, e, e1, e2, e3, e4, e5, e6, e7, e8, e9, e10⟩ := ends_at (A.length : Int) c.f0 le ctx h0 (by omega) (by omega) (by omega)
  have s1 := st_ge (A.length : Int) c.f0 ctx st h0 (by omega) (by omega) e1
  have s2 := e_le (A.length : Int) le ctx e h0 (by omega) (by omega) e4 e5
  have hast : a ≤ st := by omega
  have hex : e ≤ x := by omega
  have hok : okG (A.length : Int) (B.length : Int) e (c :: t) st 0 := ⟨⟨e8, q1, by omega, by omega, q2, by omega⟩, okV_okG _ _ e e10 t _ _ _ _ ht (Int.le_refl _) (Int.le_refl _) (by rw [← hled]; exact e9) (fun hn => by subst hn; rw [hled] at e9; exact e9)⟩
  have n1 : wrap64 (c.f0 - st) = c.f0 - st := w64' (by omega) (by omega)
  have n2 : wrap64 (c.f2 - (c.f0 - st)) = c.f2 - (c.f0 - st) := w64' (by omega) (by omega)
  have hR := r_one_at A B hA hB st e (c.f2 - (c.f0 - st)) ⟨e7, by omega⟩ (c :: t) hlen (by simp) (by show wrap64 (c.f2 - wrap64 (c.f0 - st)) = _; rw [n1, n2]) (by omega) (c :: t).length 0 st 0 [] (by omega) (by rw [List.drop_zero]; exact hok) e7 (by omega) (by simp; omega)
  rw [List.drop_zero, List.nil_append] at hR
  have r3 := rows_length A B e (c :: t) st 0 hok e7 (by omega)
  have l0 : (0 : Int) < ((c :: t).length : Int) := by simp
  have l1 : wrap64 (((c :: t).length : Int) - 1) = (((c :: t).length - 1 : Nat) : Int) := by rw [w64' (by omega) (by omega)]; omega
  have l2 : (0 : Int) ≤ (((c :: t).length - 1 : Nat) : Int) := by omega
  have l3 : (((c :: t).length - 1 : Nat) : Int) < ((c :: t).length : Int) := by omega
  have l4 : wrap64 le = le := w64' (by omega) (by omega)
  have hvs := okV_start _ _ c t a b st hv e8
  have ho := rows_old A B e e10 (c :: t) st _ hvs e7 (by omega) (by show lastE t (c.f0 + c.f1) ≤ e; rw [← hled]; exact e9)
  refine ⟨oneR st (c.f2 - (c.f0 - st)) (rowsG A B st (c :: t) e), st, e, ?_, by show (rowsG A B st (c :: t) e).length ≤ _; omega, fun hcom => ?_, e7, by omega, e10, by omega, s1, e8, hast, e9, s2, hex⟩
  · refine Ev.same (fun k => ?_) hR
    unfold selvageref10_one.f
    rw [l1, if_pos l2, if_pos l3, if_pos l0, hle2, l4, e3, e6]
    show selvageref10_one.l0 k (c :: t) A B (wrap64 (c.f0 - mn ctx c.f0)) e [] (wrap64 (c.f0 - mn ctx c.f0)) 0 = _
    rw [e2]
    rfl
  · have hcs : comG A B e (c :: t) st (c.f2 - (c.f0 - st)) := by
      have hce := comG_end x e (c :: t) a b hcom (by show lastE t (c.f0 + c.f1) ≤ e; rw [← hled]; exact e9) hex
      refine ⟨?_, hce.2⟩
      have := agree_sub hce.1 (st - a) (c.f0 - st) (by omega) (by omega)
      rw [show a + (st - a) = st by omega, show b + (st - a) = c.f2 - (c.f0 - st) by omega] at this
      exact this
    have hn := rows_new A B e e10 (c :: t) st _ hvs e7 (by omega) (by show lastE t (c.f0 + c.f1) ≤ e; rw [← hled]; exact e9) hcs (by show lastB t (c.f2 + c.f3) + (e - lastE t (c.f0 + c.f1)) ≤ _; rw [← hled, ← hlbd]; omega)
    have hn' : newS (rowsG A B st (c :: t) e) = cut B (c.f2 - (c.f0 - st)) (lb + (e - le)) := by rw [hn, hled, hlbd]; rfl
    have k1 := cntOld_sides (rowsG A B st (c :: t) e)
    have k2 := cntNew_sides (rowsG A B st (c :: t) e)
    rw [ho] at k1
    rw [hn'] at k2
    have k3 := cut_length A st e e7 (by omega) e10
    have k4 := cut_length B (c.f2 - (c.f0 - st)) (lb + (e - le)) (by omega) (by omega) (by omega)
    refine ⟨e7, by omega, e10, by omega, by omega, by omega, ho, hn', ?_, ?_, ?_, ?_, rfl, rows_kinds A B e (c :: t) st, rows_change A B e st _ c t hvs.1 e7 (by omega)⟩
    · show (if (cntOld (rowsG A B st (c :: t) e) : Int) > 0 then st + 1 else st) = _
      rw [k1, k3]
    · show (cntOld (rowsG A B st (c :: t) e) : Int) = _
      rw [k1, k3]
    · show (if (cntNew (rowsG A B st (c :: t) e) : Int) > 0 then c.f2 - (c.f0 - st) + 1 else c.f2 - (c.f0 - st)) = _
      rw [k2, k4]
    · show (cntNew (rowsG A B st (c :: t) e) : Int) = _
      rw [k2, k4]
end Go.Proofs.Ytkoagpnoaibdjaa.Pure
namespace Go.Proofs.Ytkoagpnoaibdjaa.Pure
open Go.RowKit Go.Proofs.Ytkoagpnoaibdjaa.Pp Go.Proofs.Ytkoagpnoaibdjaa.Ext Go.Proofs.YtkoagpnoaibdjaaW.PrintWords Go.Proofs.YtkoagpnoaibdjaaW.PrintLast Go.Proofs.YtkoagpnoaibdjaaW.PrintMore
set_option linter.unusedVariables false
set_option linter.unusedSimpArgs false
def hunkAs (R : HunkT) : Hunk := ⟨R.1, R.2.1, R.2.2.1, R.2.2.2.1, R.2.2.2.2.1, R.2.2.2.2.2⟩
theorem drop_mid (L : List Chg) (i j : Nat) (hij : i ≤ j) (hj : j ≤ L.length) : L.drop i = (L.take j).drop i ++ L.drop j := by
  conv => lhs; rw [← List.take_append_drop j L]
  rw [List.drop_append_of_le_length (by rw [List.length_take]; omega)]
theorem mid_cons (L : List Chg) (i j : Nat) (hij : i < j) (hj : j ≤ L.length) : ∃ c t, (L.take ((j : Nat) : Int).toNat).drop ((i : Nat) : Int).toNat = c :: t ∧ (c :: t).length ≤ L.length ∧ L.drop i = (c :: t) ++ L.drop j ∧ rd_T57 L (i : Int) = c ∧
    rd_T57 (c :: t) (((c :: t).length - 1 : Nat) : Int) = rd_T57 L ((j - 1 : Nat) : Int) := by
  obtain ⟨g, hg⟩ : ∃ g, g = (L.take j).drop i := ⟨_, rfl⟩
  have hl : g.length = j - i := by rw [hg, List.length_drop, List.length_take]; omega
  have hd := drop_mid L i j (by omega) hj
  rw [← hg] at hd
  rw [Int.toNat_natCast, Int.toNat_natCast, ← hg]
  have hl2 : ((L.take j).drop i).length = j - i := by rw [← hg]; exact hl
  have hlast : rd_T57 g ((g.length - 1 : Nat) : Int) = rd_T57 L ((j - 1 : Nat) : Int) := by
    unfold rd_T57
    rw [Int.toNat_natCast, Int.toNat_natCast, List.getD_eq_getElem?_getD, List.getD_eq_getElem?_getD, hg, List.getElem?_drop, List.getElem?_take, if_pos (by omega)]
    congr 2
    omega
  cases g with
  | nil => simp at hl; omega
  | cons c t =>
    refine ⟨c, t, rfl, by omega, hd, ?_, hlast⟩
    have h2 := drop57 L i (by omega)
    rw [hd] at h2
    exact (List.cons.inj h2).1.symm
theorem w_pred (j : Nat) (h : 0 < j) (hj : j ≤ 9000000000) : wrap64 ((j : Int) - 1) = ((j - 1 : Nat) : Int) :=
  (w_sub j (Nat.le_trans hj (by decide))).trans (Int.ofNat_sub (Nat.succ_le_of_lt h)).symm
theorem k_pred (j n : Nat) (h : j < n) : ((j - 1 : Nat) : Int) < (n : Int) := Int.ofNat_lt.mpr (Nat.lt_of_le_of_lt (Nat.sub_le j 1) h)
theorem hl_end (A B : List ByteArray) (a b : Int) (ha : 0 ≤ a) (hb : 0 ≤ b) (han : a ≤ (A.length : Int)) (ra rb : Int) (hra : 0 ≤ ra) (hrb : 0 ≤ rb) (h1 : ra ≤ a) (h2 : a - ra = b - rb) (hv : (A.length : Int) - ra = (B.length : Int) - rb) (hc : agree A B ra rb ((A.length : Int) - ra)) : HL A B [] a b := by
  refine ⟨han, by omega, ?_⟩
  have := agree_sub hc (a - ra) ((A.length : Int) - a) (by omega) (by omega)
  rw [show ra + (a - ra) = a by omega, show rb + (a - ra) = b by omega] at this
  have h3 := agree_cut this ha hb (by omega) (by omega) (by omega)
  rw [show a + ((A.length : Int) - a) = (A.length : Int) by omega, show b + ((A.length : Int) - a) = (B.length : Int) by omega] at h3
  exact h3
structure Rows9 (l : List Hunk) : Prop where
  rows : ∀ h ∈ l, h.f5.length ≤ 4000000000
theorem rows9_nil : Rows9 [] := ⟨fun h hh => by cases hh⟩
theorem rows9_cons {h : Hunk} {l : List Hunk} (hl : Rows9 l) (hh : h.f5.length ≤ 4000000000) : Rows9 (h :: l) := ⟨fun x hx => by
  rcases List.mem_cons.mp hx with rfl | hx
  · exact hh
  · exact hl.rows x hx⟩
set_option maxHeartbeats 1000000 in
theorem groups_hl (A B : List ByteArray) (hA : A.length ≤ 4194304) (hB : B.length ≤ 4194304) (L : List Chg) (hL : L.length ≤ 4000000000) (ctx : Int) (h0 : 0 ≤ ctx ∧ ctx ≤ 2147483647) (d : Nat) :
    ∀ (i j : Nat) (out : List Hunk) (a b ra rb : Int), i < j → j + d = L.length → out.length ≤ i → 0 ≤ ra → 0 ≤ rb → ra ≤ a → a ≤ ra + ctx → a - ra = b - rb → a ≤ (A.length : Int) → ra ≤ (A.length : Int) → rb ≤ (B.length : Int) →
    validP (A.length : Int) (B.length : Int) (L.drop i) ra rb → (a ≤ 0 ∨ ra + 2 * ctx < (rd_T57 L (i : Int)).f0) →
    ∃ new, (comG A B (A.length : Int) (L.drop i) ra rb → HL A B new a b) ∧ Rows9 new ∧ out.length + new.length ≤ L.length ∧ Ev (fun k => selvageref10_Build.l1 k A B ctx L out (i : Int) (j : Int)) (out ++ new, 0) := by
  induction d with
  | zero =>
    intro i j out a b ra rb hij hj hout hra hrb e1 e2 e3 e4 e5 e6 hv hg
    obtain ⟨c, t, m1, m2, m3, m4, m5⟩ := mid_cons L i j hij (by omega)
    have hdj : L.drop j = [] := List.drop_of_length_le (by omega)
    rw [m3, hdj] at hv
    obtain ⟨v1, v2, v3, v4⟩ := valid_split _ _ (c :: t) [] ra rb hv e5 e6
    have v2' : (A.length : Int) - lastE t (c.f0 + c.f1) = (B.length : Int) - lastB t (c.f2 + c.f3) := v2
    have v3' : lastE t (c.f0 + c.f1) ≤ (A.length : Int) := v3
    rw [m4] at hg
    obtain ⟨R, st, e, r1, r2, r3, p0, p1, g1, g2, r4, r5, r6, r7, r8, r9⟩ := one_piece A B hA hB c t (by omega) ra rb v1 hra hrb ctx h0 (by omega) (A.length : Int) (Or.inr rfl) (Int.le_refl _) (by omega)
    obtain ⟨⟨q1, q2, q3, q4, q5, q6, q7, q8, q9, q10⟩, _⟩ := v1
    have hast : a ≤ st := by omega
    have g4 := lastB_rel _ _ t _ _ 0 (c.f2 + c.f3) (valid_split _ _ (c :: t) [] ra rb hv e5 e6).1.2 (Int.le_refl _)
    have g5 := lastE_ge _ _ t _ _ (c.f0 + c.f1) (valid_split _ _ (c :: t) [] ra rb hv e5 e6).1.2 (Int.le_refl _)
    refine ⟨[hunkAs R], fun hc => ?_, rows9_cons rows9_nil r2, by simp; omega, ?_⟩
    · rw [m3, hdj] at hc
      obtain ⟨c1', c2'⟩ := comG_split (A.length : Int) (A.length : Int) (c :: t) [] ra rb hc (fun c t h => by cases h) (fun _ => rfl)
      have hcut : cut A a st = cut B b (c.f2 - (c.f0 - st)) := by
        have := agree_sub c1'.1 (a - ra) (st - a) (by omega) (by omega)
        rw [show ra + (a - ra) = a by omega, show rb + (a - ra) = b by omega] at this
        have h3 := agree_cut this (by omega) (by omega) (by omega) (by omega) (by omega)
        rw [show a + (st - a) = st by omega, show b + (st - a) = c.f2 - (c.f0 - st) by omega] at h3
        exact h3
      have hend : HL A B [] e (lastB t (c.f2 + c.f3) + (e - lastE t (c.f0 + c.f1))) := hl_end A B e _ (by omega) (by omega) g1 (lastE t (c.f0 + c.f1)) (lastB t (c.f2 + c.f3)) (by omega) (by omega) r7 (by omega) v2' c2'
      exact ⟨st, e, _, _, r3 c1', hast, by omega, hcut, hend⟩
    have k4 : (j : Int) ≤ (L.length : Int) := by omega
    have k6 : (j : Int) = (L.length : Int) := by omega
    have k2 : (0 : Int) ≤ (i : Int) := by omega
    have k3 : (i : Int) ≤ (j : Int) := by omega
    have k5 : out.length < 1954687338268 := by omega
    have w1 : wrap64 ((j : Int) + 1) = ((j + 1 : Nat) : Int) := w_add j 1 (by omega)
    have k7 : ¬ ((j + 1 : Nat) : Int) ≤ (L.length : Int) := by omega
    rw [← m1] at r1
    refine Ev.step (fun k => by rw [selvageref10_Build.l1, if_pos k4, if_pos k6, if_pos k2, if_pos k3]) (Ev.bind r1 (Ev.same (fun k => if_pos k5) ?_))
    exact Ev.step (f := fun _ => some (out ++ [hunkAs R], 0)) (fun k => by rw [selvageref10_Build.l1, w1, if_neg k7]; rfl) (Ev.pure _)
  | succ d ih =>
    intro i j out a b ra rb hij hj hout hra hrb e1 e2 e3 e4 e5 e6 hv hg
    have hjl : j < L.length := by omega
    have k0 : (0 : Int) ≤ (j : Int) := by omega
    have k1 : (j : Int) < (L.length : Int) := by omega
    have k2 : (0 : Int) ≤ (i : Int) := by omega
    have k3 : (i : Int) ≤ (j : Int) := by omega
    have k4 : (j : Int) ≤ (L.length : Int) := by omega
    have k5 : out.length < 1954687338268 := by omega
    have hj9 : j ≤ 9000000000 := by omega
    have hj0 : 0 < j := by omega
    have k6 : ¬ (j : Int) = (L.length : Int) := by omega
    obtain ⟨c, t, m1, m2, m3, m4, m5⟩ := mid_cons L i j hij (by omega)
    obtain ⟨x, hx⟩ : ∃ x, x = rd_T57 L (j : Int) := ⟨_, rfl⟩
    obtain ⟨y, hy⟩ : ∃ y, y = rd_T57 L ((j - 1 : Nat) : Int) := ⟨_, rfl⟩
    have hdj : L.drop j = x :: L.drop (j + 1) := by rw [hx]; exact drop57 L j hjl
    have hv0 := hv
    rw [m3, hdj] at hv
    obtain ⟨v1, v2, v3, v4⟩ := valid_split _ _ (c :: t) _ ra rb hv e5 e6
    have hle := lastE_rd (c :: t) 0 (by simp)
    rw [m5, ← hy] at hle
    have hle' : lastE t (c.f0 + c.f1) = y.f0 + y.f1 := hle
    have v3' : lastE t (c.f0 + c.f1) ≤ (A.length : Int) := v3
    have v4' : lastB t (c.f2 + c.f3) ≤ (B.length : Int) := v4
    have g5 := lastE_ge _ _ t _ _ (c.f0 + c.f1) v1.2 (Int.le_refl _)
    have g4 := lastB_rel _ _ t _ _ 0 (c.f2 + c.f3) v1.2 (Int.le_refl _)
    have hcx := v2.1
    obtain ⟨x1, x2, x3, x4, x5, x6, x7, x8, x9, x10⟩ := hcx
    have x4' : lastE t (c.f0 + c.f1) ≤ x.f0 := x4
    have x6' : lastB t (c.f2 + c.f3) ≤ x.f2 := x6
    have x8' : x.f0 - lastE t (c.f0 + c.f1) = x.f2 - lastB t (c.f2 + c.f3) := x8
    have v1' := v1
    obtain ⟨⟨q1, q2, q3, q4, q5, q6, q7, q8, q9, q10⟩, _⟩ := v1'
    have w3 : wrap64 (y.f0 + y.f1) = y.f0 + y.f1 := w64' (by omega) (by omega)
    have w4 : wrap64 (x.f0 - (y.f0 + y.f1)) = x.f0 - (y.f0 + y.f1) := w64' (by omega) (by omega)
    have w5 : wrap64 (2 * ctx) = 2 * ctx := w64' (by omega) (by omega)
    by_cases hgap : x.f0 - (y.f0 + y.f1) > 2 * ctx
    · rw [m4] at hg
      obtain ⟨R, st, e, r1, r2, r3, p0, p1, g1, g2, r4, r5, r6, r7, r8, r9⟩ := one_piece A B hA hB c t (by omega) ra rb v1 hra hrb ctx h0 (by omega) x.f0 (Or.inl (by omega)) x5 (by omega)
      have hast : a ≤ st := by omega
      obtain ⟨new, n1, n2, n3, n4⟩ := ih j (j + 1) (out ++ [hunkAs R]) e (lastB t (c.f2 + c.f3) + (e - lastE t (c.f0 + c.f1))) (lastE t (c.f0 + c.f1)) (lastB t (c.f2 + c.f3)) (by omega) (by omega) (by simp; omega) (by omega) (by omega) r7 r8 (by omega) g1 v3' v4'
        (by rw [hdj]; exact v2) (Or.inr (by rw [← hx]; omega))
      refine ⟨hunkAs R :: new, fun hc => ?_, rows9_cons n2 r2, by simp at n3 ⊢; omega, ?_⟩
      · rw [m3, hdj] at hc
        obtain ⟨c1', c2'⟩ := comG_split (A.length : Int) x.f0 (c :: t) (x :: L.drop (j + 1)) ra rb hc (fun c t h => by rw [(List.cons.inj h).1]) (fun h => by cases h)
        have hcut : cut A a st = cut B b (c.f2 - (c.f0 - st)) := by
          have := agree_sub c1'.1 (a - ra) (st - a) (by omega) (by omega)
          rw [show ra + (a - ra) = a by omega, show rb + (a - ra) = b by omega] at this
          have h3 := agree_cut this (by omega) (by omega) (by omega) (by omega) (by omega)
          rw [show a + (st - a) = st by omega, show b + (st - a) = c.f2 - (c.f0 - st) by omega] at h3
          exact h3
        exact ⟨st, e, _, _, r3 c1', hast, by omega, hcut, n1 (by rw [hdj]; exact c2')⟩
      have w1 : wrap64 ((j : Int) + 1) = ((j + 1 : Nat) : Int) := w_add j 1 (Nat.le_trans (Nat.add_le_add_right hj9 1) (by decide))
      have w2 : wrap64 ((j : Int) - 1) = ((j - 1 : Nat) : Int) := w_pred j hj0 hj9
      have k7 : (0 : Int) ≤ ((j - 1 : Nat) : Int) := Int.natCast_nonneg _
      have k8 : ((j - 1 : Nat) : Int) < (L.length : Int) := k_pred j _ hjl
      rw [← m1] at r1
      refine Ev.step (fun k => by rw [selvageref10_Build.l1, if_pos k4, if_neg k6, if_pos k0, if_pos k1, w2, if_pos k7, if_pos k8, ← hx, ← hy, w3, w4, w5, if_pos hgap, if_pos k2, if_pos k3]) (Ev.bind r1 (Ev.same (fun k => if_pos k5) ?_))
      rw [List.append_assoc] at n4
      exact Ev.same (fun k => by rw [w1]; rfl) n4
    · obtain ⟨new, n1, n2, n3, n4⟩ := ih i (j + 1) out a b ra rb (by omega) (by omega) hout hra hrb e1 e2 e3 e4 e5 e6 hv0 hg
      have w1 : wrap64 ((j : Int) + 1) = ((j + 1 : Nat) : Int) := w_add j 1 (Nat.le_trans (Nat.add_le_add_right hj9 1) (by decide))
      have w2 : wrap64 ((j : Int) - 1) = ((j - 1 : Nat) : Int) := w_pred j hj0 hj9
      have k7 : (0 : Int) ≤ ((j - 1 : Nat) : Int) := Int.natCast_nonneg _
      have k8 : ((j - 1 : Nat) : Int) < (L.length : Int) := k_pred j _ hjl
      exact ⟨new, n1, n2, n3, Ev.step (fun k => by rw [selvageref10_Build.l1, if_pos k4, if_neg k6, if_pos k0, if_pos k1, w2, if_pos k7, if_pos k8, ← hx, ← hy, w3, w4, w5, if_neg hgap, w1]) n4⟩
end Go.Proofs.Ytkoagpnoaibdjaa.Pure
namespace Go.Proofs.Ytkoagpnoaibdjaa.Pure
open Go.RowKit Go.Proofs.Ytkoagpnoaibdjaa.Pp Go.Proofs.Ytkoagpnoaibdjaa.Ext Go.Proofs.YtkoagpnoaibdjaaW.PrintWords Go.Proofs.YtkoagpnoaibdjaaW.PrintLast Go.Proofs.YtkoagpnoaibdjaaW.PrintMore
set_option linter.unusedVariables false
set_option linter.unusedSimpArgs false
theorem comG_nrm (A B : List ByteArray) (n m : Int) : ∀ (s : List Chg) (pa pb qa qb a b : Int), validP n m s qa qb → pa ≤ qa → pb ≤ qb → (pa < qa ∨ pb < qb) → agree A B a b (pa - a) → comG A B n s qa qb → comG A B n (nrm s pa pb qa qb) a b
  | [], pa, pb, qa, qb, a, b, hv, h1, h2, h3, h4, h5 => by
    simp only [nrm]
    rw [gap_some h3]
    refine ⟨h4, ?_⟩
    show agree A B (pa + (qa - pa)) (pb + (qb - pb)) (n - (pa + (qa - pa)))
    rw [show pa + (qa - pa) = qa by omega, show pb + (qb - pb) = qb by omega]
    exact h5
  | c :: t, pa, pb, qa, qb, a, b, hv, h1, h2, h3, h4, h5 => by
    obtain ⟨⟨q1, q2, q3, q4, q5, q6, q7, q8, q9, q10⟩, hv2⟩ := hv
    simp only [nrm]
    by_cases q : qa < c.f0
    · rw [if_pos q, gap_some h3]
      refine ⟨h4, ?_⟩
      show comG A B n (nrm t c.f0 c.f2 (c.f0 + c.f1) (c.f2 + c.f3)) (pa + (qa - pa)) (pb + (qb - pb))
      rw [show pa + (qa - pa) = qa by omega, show pb + (qb - pb) = qb by omega]
      exact comG_nrm A B n m t _ _ _ _ _ _ hv2 (by omega) (by omega) (by omega) h5.1 h5.2
    · rw [if_neg q]
      exact comG_nrm A B n m t _ _ _ _ _ _ hv2 (by omega) (by omega) (by omega) h4 h5.2
theorem comG_nrm0 (A B : List ByteArray) (n m : Int) (s : List Chg) (hv : validP n m s 0 0) (h : comG A B n s 0 0) : comG A B n (nrm s 0 0 0 0) 0 0 := by
  cases s with
  | nil => show comG A B n (gap 0 0 0 0) 0 0; rw [gap_none]; exact h
  | cons c t =>
    obtain ⟨hc, hv2⟩ := hv
    rw [nrm_start c t n m hc]
    obtain ⟨q1, q2, q3, q4, q5, q6, q7, q8, q9, q10⟩ := hc
    exact comG_nrm A B n m t _ _ _ _ _ _ hv2 (by omega) (by omega) (by omega) (by have := h.1; rw [Int.sub_zero] at this ⊢; exact this) h.2
theorem txt_size (A : List ByteArray) (hs : ∀ s ∈ A, s.size ≤ 4000000000) (z : Int) (h0 : 0 ≤ z) (h1 : z < (A.length : Int)) : (rdOf ByteArray.empty A z).size ≤ 4000000000 := by
  obtain ⟨u, rfl⟩ := Int.eq_ofNat_of_zero_le h0
  rw [rd_nat]
  have hu : u < A.length := by omega
  refine hs _ ?_
  rw [List.getD_eq_getElem?_getD, List.getElem?_eq_getElem hu]
  exact List.getElem_mem hu
theorem stay_hl (A B : List ByteArray) (hsA : ∀ s ∈ A, s.size ≤ 4000000000) (hsB : ∀ s ∈ B, s.size ≤ 4000000000) (L : List Chg) (ctx : Int) (res : List Hunk)
    (h3 : Ev (fun k => selvageref10_Build.l1 k A B ctx L [] 0 1) (res, 0)) (P : List S55) (hP : P.length ≤ 4000000000) (d : Nat) :
    ∀ (i : Nat) (a b : Int), i + d = P.length → inO (A.length : Int) (B.length : Int) (P.drop i) a b → 0 ≤ a → 0 ≤ b →
    ∃ err : Int, Ev (fun k => selvageref10_Build.l0 k A B ctx L P (i : Int)) (if err = 0 then (res, 0) else ([], err)) := by
  induction d with
  | zero =>
    intro i a b h hin ha hb
    have c1 : ¬ (i : Int) < (P.length : Int) := by omega
    exact ⟨0, Ev.step (fun k => by rw [selvageref10_Build.l0, if_neg c1]) (by rw [if_pos rfl]; exact h3)⟩
  | succ d ih =>
    intro i a b h hin ha hb
    have hi : i < P.length := by omega
    obtain ⟨p, hp⟩ : ∃ p, p = rd_T55 P (i : Int) := ⟨_, rfl⟩
    have hdr : P.drop i = p :: P.drop (i + 1) := by rw [hp]; exact drop55 P i hi
    rw [hdr] at hin
    obtain ⟨q1, q2, q3, q4, q5⟩ := hin
    have c1 : (i : Int) < (P.length : Int) := by omega
    have c0 : (0 : Int) ≤ (i : Int) := by omega
    have w1 : wrap64 ((i : Int) + 1) = ((i + 1 : Nat) : Int) := w_add i 1 (by omega)
    have b1 : 0 ≤ p.f0 := by omega
    have b2 : 0 ≤ p.f1 := by omega
    have s1 := txt_size A hsA p.f0 b1 q3
    have s2 := txt_size B hsB p.f1 b2 q4
    by_cases hw : (whole (rdOf ByteArray.empty A p.f0) != whole (rdOf ByteArray.empty B p.f1)) = true
    · refine ⟨61, ?_⟩
      rw [if_neg (by decide)]
      exact Ev.step (f := fun _ => some ([], 61)) (fun k => by rw [selvageref10_Build.l0, if_pos c1, if_pos c0, ← hp, if_pos b1, if_pos q3, r_whole_at _ s1, Option.bind_some, if_pos b2, if_pos q4, r_whole_at _ s2, Option.bind_some, if_pos hw]) (Ev.pure _)
    · obtain ⟨err, g3⟩ := ih (i + 1) _ _ (by omega) q5 (by omega) (by omega)
      exact ⟨err, Ev.step (fun k => by rw [selvageref10_Build.l0, if_pos c1, if_pos c0, ← hp, if_pos b1, if_pos q3, r_whole_at _ s1, Option.bind_some, if_pos b2, if_pos q4, r_whole_at _ s2, Option.bind_some, if_neg hw, w1]) g3⟩
theorem build_hl (S : List Chg) (A B : List ByteArray) (ctx : Int) (hS : S.length ≤ 3000000000) (hlA : A.length ≤ 4000000000) (hlB : B.length ≤ 4000000000) (hsA : ∀ s ∈ A, s.size ≤ 4000000000) (hsB : ∀ s ∈ B, s.size ≤ 4000000000) :
    (∃ e : Int, e ≠ 0 ∧ Ev (fun k => selvageref10_Build.f k S A B ctx) ([], e)) ∨
    (validL A = true ∧ validL B = true ∧ A.length ≤ 4194304 ∧ B.length ≤ 4194304 ∧ validP (A.length : Int) (B.length : Int) S 0 0 ∧ (0 ≤ ctx ∧ ctx ≤ 2147483647) ∧
      ∃ e : Int, ∃ res, (comG A B (A.length : Int) S 0 0 → HL A B res 0 0) ∧ Rows9 res ∧ res.length ≤ S.length + 1 ∧ Ev (fun k => selvageref10_Build.f k S A B ctx) (if e = 0 then (res, 0) else ([], e))) := by
  by_cases hc : ctx < 0 ∨ ctx > 2147483647
  · refine Or.inl ⟨1, by decide, ?_⟩
    have hj : Ev (fun k => selvageref10_Build.j0 k S A B ctx true) ([], 1) := Ev.step (f := fun _ => some ([], 1)) (fun k => by rw [selvageref10_Build.j0, if_pos rfl]) (Ev.pure _)
    refine Ev.same (fun k => ?_) hj
    unfold selvageref10_Build.f
    split
    · rfl
    · rw [decide_eq_true (by omega : ctx > 2147483647)]
  have e2 : ∀ k, selvageref10_Build.f k S A B ctx = selvageref10_Build.j0 k S A B ctx false := fun k => by
    unfold selvageref10_Build.f; rw [if_neg (by omega), decide_eq_false (by omega : ¬ ctx > 2147483647)]
  have hj0 : ∀ (x : List Hunk × Int), Ev (fun k => selvageref10_Build.j1 k S A B ctx (!(validL A && validL B))) x → Ev (fun k => selvageref10_Build.f k S A B ctx) x := by
    intro x h2
    refine Ev.same e2 (Ev.step (fun k => by rw [selvageref10_Build.j0, if_neg (by simp)]) (Ev.bind (r_valid A hlA hsA) ?_))
    cases hA : validL A with
    | true => rw [hA, Bool.true_and] at h2; exact Ev.same (fun k => if_pos rfl) (Ev.bind (r_valid B hlB hsB) h2)
    | false => rw [hA, Bool.false_and] at h2; exact Ev.same (fun k => if_neg (by simp)) h2
  cases hvv : (validL A && validL B) with
  | false =>
    rw [hvv] at hj0
    refine Or.inl ⟨3, by decide, hj0 _ ?_⟩
    exact Ev.step (f := fun _ => some ([], 3)) (fun k => by rw [selvageref10_Build.j1, if_pos (by rfl)]) (Ev.pure _)
  | true =>
    rw [hvv] at hj0
    rw [Bool.and_eq_true] at hvv
    have hr := rnorm_at S (by omega) (A.length : Int) (B.length : Int) (by omega) (by omega)
    obtain ⟨L, hLd⟩ : ∃ L, L = (normS S (A.length : Int) (B.length : Int)).1 := ⟨_, rfl⟩
    cases he : (normS S (A.length : Int) (B.length : Int)).2 with
    | some e =>
      have hne : e ≠ 0 := by
        unfold normS at he
        split at he
        · cases he
        · exact validS_some he
      rw [he] at hr
      exact Or.inl ⟨e, hne, hj0 _ (Ev.step (fun k => by rw [selvageref10_Build.j1, if_neg (by simp)]) (Ev.bind hr (Ev.same (fun k => if_neg hne) (Ev.pure _))))⟩
    | none =>
      have hpair : normS S (A.length : Int) (B.length : Int) = (L, none) := by rw [hLd, ← he]
      obtain ⟨h1, h2, h3, h4⟩ := normS_valid hpair
      have hvS : validS S (A.length : Int) (B.length : Int) = none := by
        unfold normS at hpair
        split at hpair
        · rename_i hx; simpa using hx
        · rename_i hx
          have h5 := (Prod.mk.inj hpair).2
          rw [h5] at hx
          exact absurd rfl hx
      have hLn : L = nrm S 0 0 0 0 := by
        unfold normS at hpair
        rw [hvS] at hpair
        exact (Prod.mk.inj hpair).1.symm
      have hP := (validS_none hvS).2.2
      refine Or.inr ⟨hvv.1, hvv.2, by omega, by omega, hP, by omega, ?_⟩
      have hL : L.length ≤ 4000000000 := by omega
      have hcL : comG A B (A.length : Int) S 0 0 → comG A B (A.length : Int) L 0 0 := fun hcom => by rw [hLn]; exact comG_nrm0 A B _ _ S hP hcom
      have hrp := rpairs_at L hL (A.length : Int) (B.length : Int) (by omega) (by omega) h1 h2 h3
      have hpl := pairsL_length (A.length : Int) (B.length : Int) L 0 0 h3 (by omega)
      have hio := inO_pairs (A.length : Int) (B.length : Int) L 0 0 h3 (by omega) (by omega)
      obtain ⟨res, g0, g1, g2, g3⟩ : ∃ res, (comG A B (A.length : Int) L 0 0 → HL A B res 0 0) ∧ Rows9 res ∧ res.length ≤ L.length ∧ Ev (fun k => selvageref10_Build.l1 k A B ctx L [] 0 1) (res, 0) := by
        by_cases h0 : L.length = 0
        · refine ⟨[], fun hcL => ?_, rows9_nil, by simp, Ev.step (f := fun _ => some ([], 0)) (fun k => by rw [selvageref10_Build.l1, if_neg (by omega)]) (Ev.pure _)⟩
          have hLe : L = [] := List.length_eq_zero_iff.mp h0
          rw [hLe] at hcL h3
          exact hl_end A B 0 0 (Int.le_refl _) (Int.le_refl _) (by omega) 0 0 (Int.le_refl _) (Int.le_refl _) (Int.le_refl _) (by omega) h3 hcL
        · obtain ⟨new, n1, n2, n3, n4⟩ := groups_hl A B (by omega) (by omega) L hL ctx (by omega) (L.length - 1) 0 1 [] 0 0 0 0 (by omega) (by omega) (by simp) (by omega) (by omega) (by omega) (by omega) (by omega) (by omega) (by omega) (by omega) (by rw [List.drop_zero]; exact h3) (Or.inl (by omega))
          exact ⟨new, fun hcL => n1 (by rw [List.drop_zero]; exact hcL), n2, by simp at n3; omega, n4⟩
      obtain ⟨err, k3⟩ := stay_hl A B hsA hsB L ctx res g3 (pairsL (A.length : Int) L 0 0) (by omega) (pairsL (A.length : Int) L 0 0).length 0 0 0 (by omega) (by rw [List.drop_zero]; exact hio) (Int.le_refl _) (Int.le_refl _)
      refine ⟨err, res, fun hcom => g0 (hcL hcom), g1, by omega, hj0 _ ?_⟩
      rw [hpair] at hr
      exact Ev.step (fun k => by rw [selvageref10_Build.j1, if_neg (by simp)]) (Ev.bind hr (Ev.same (fun k => if_pos rfl) (Ev.bind hrp k3)))
end Go.Proofs.Ytkoagpnoaibdjaa.Pure
namespace Go.Proofs.Ytkoagpnoaibdjaa.Pure
open Go.RowKit Go.Proofs.Ytkoagpnoaibdjaa.Pp Go.Proofs.Ytkoagpnoaibdjaa.Ext Go.Proofs.YtkoagpnoaibdjaaW.PrintWords Go.Proofs.YtkoagpnoaibdjaaW.PrintLast Go.Proofs.YtkoagpnoaibdjaaW.PrintMore
set_option linter.unusedVariables false
set_option linter.unusedSimpArgs false
theorem left0 (l : List Row) : leftR l 0 = l := by unfold leftR; rw [Nat.min_zero, Nat.min_zero, Nat.sub_zero, List.take_length, List.drop_zero]
theorem skip0 (l : List Row) : min (behN l) 0 = 0 := Nat.min_zero _
theorem pw_in (x : Int) (h : -100000000000 ≤ x ∧ x ≤ 100000000000) : wrap64 x = x := w64' (by omega) (by omega)
theorem pw_add0 (P : Nat) (h : (P : Int) ≤ 100000000000) : wrap64 ((P : Int) + 0) = (P : Int) := by rw [Int.add_zero]; exact pw_in _ ⟨by omega, h⟩
theorem pw_zero (P : Nat) (h : (P : Int) ≤ 100000000000) : wrap64 ((P : Int) - ((0 : Nat) : Int)) = (P : Int) := by
  rw [show (P : Int) - ((0 : Nat) : Int) = (P : Int) by omega]
  exact pw_in _ ⟨by omega, h⟩
theorem pw_sub (a b m : Int) (h : m = a - b) (hb : -100000000000 ≤ a - b ∧ a - b ≤ 100000000000) : wrap64 (a - b) = m := (pw_in _ hb).trans h.symm
theorem find_hit (old : List ByteArray) (h : Hunk) (frm : Nat) (off q : Int) (F : Nat) (hF : F ≤ 3) (hs : Small h) (hk : hunkOk h = true) (hb : old.length ≤ 1048576) (ho : -100000000000 ≤ off ∧ off ≤ 100000000000) (hfo : frm + (oldS h.f5).length ≤ old.length)
    (hN : Near (fun x => atB old (oldS h.f5) x.toNat) (statedI h + off) (frm : Int) ((old.length - (oldS h.f5).length : Nat) : Int) (q, true)) : Ev (fun k => apply_Find.g k old h (frm : Int) off (F : Int)) (q, 0, true) := by
  have hst := stated_in hk
  have hrows := hs.rows
  have hF3 : atMost3 (F : Int) = (F : Int) := by unfold atMost3; rw [if_neg (by omega)]
  have h0 : atLeast0 (frm : Int) = (frm : Int) := by unfold atLeast0; rw [if_neg (by omega)]
  have hsl := oldS_le h.f5
  obtain ⟨K3, hK3⟩ := p_sides2 h.f5 (by omega)
  have hpl : leftF h.f5 ((0 : Nat) : Int) = some (h.f5, ((0 : Nat) : Int)) := by rw [p_left h.f5 0 (hunk_change hk) (by omega), left0, skip0]
  obtain ⟨L, hL⟩ : ∃ L, L = oldS h.f5 := ⟨_, rfl⟩
  rw [← hL] at hN hfo hsl
  obtain ⟨m, hm⟩ : ∃ m : Nat, m = old.length - L.length := ⟨_, rfl⟩
  rw [← hm] at hN
  have hm2 : m + L.length = old.length := by omega
  clear hm
  have b1 : (m : Int) = (old.length : Int) - (L.length : Int) := by omega
  have b2 : -100000000000 ≤ (old.length : Int) - (L.length : Int) ∧ (old.length : Int) - (L.length : Int) ≤ 100000000000 := by omega
  have b3 : (m : Int) ≤ 100000000000 ∧ (frm : Int) ≤ 100000000000 := by omega
  obtain ⟨near, hnear⟩ : ∃ near, near = statedI h + off := ⟨_, rfl⟩
  rw [← hnear] at hN
  have hfind : ∀ k g, K3 + old.length + L.length + 10 ≤ k → findL k old h.f5 (frm : Int) near (F : Int) (g + 1) 0 = some (q, 0, true) := by
    intro k g hk'
    have hP : ∃ z, nearF (matchF k L old ((0 : Nat) : Int)) k near (frm : Int) (m : Int) = some z ∧ Near (fun x => atB old L x.toNat) near (frm : Int) (m : Int) z := by
      refine p_near _ _ near _ _ k (old.length + 1) (fun x a b => ?_) (by omega) (by omega) (by omega) (by omega) (by omega) (by omega)
      exact match_at old L ((0 : Nat) : Int) x x.toNat k (by omega) (by omega) (by omega) (by omega)
    obtain ⟨⟨z1, z2⟩, hz, hZ⟩ := hP
    obtain ⟨u1, u2⟩ := Near.one hZ hN
    obtain rfl : z2 = true := u1
    obtain rfl : z1 = q := u2 rfl
    have h3 : apply_sides.f k h.f5 = some (oldS h.f5, newS h.f5) := hK3 k (by omega)
    have hpl' : leftF h.f5 0 = some (h.f5, ((0 : Nat) : Int)) := hpl
    have hF4 : (0 : Int) ≤ (F : Int) := by omega
    have hne : ¬ (m : Int) < (frm : Int) := by omega
    rw [findL, hF3, if_pos hF4, hpl', Option.bind_some, h3, Option.bind_some, ← hL, pw_sub _ _ _ b1 b2, if_neg hne, pw_zero _ b3.2, pw_zero _ b3.1, hz, Option.bind_some, if_pos rfl]
  unfold apply_Find.g
  rw [p_hunk h hs, if_pos hk, p_stated hk, h0]
  refine Ev.same (fun k => if_pos (by omega)) ?_
  simp only [Option.bind_some, Option.isSome_none, Bool.false_eq_true, if_false]
  refine Ev.bind (p_sum (statedI h) off ⟨by omega, by omega⟩ ⟨by omega, by omega⟩) ⟨K3 + old.length + L.length + 11, fun k hk' => ?_⟩
  obtain ⟨g, rfl⟩ : ∃ g, k = g + 1 := ⟨k - 1, by omega⟩
  rw [← hnear]
  exact hfind (g + 1) g (by omega)
theorem apply_step (old : List ByteArray) (h : Hunk) (t : List Hunk) (i frm P F : Nat) (off : Int) (out : List ByteArray) (hits : List Hit) (rej : List Int) (hs : Small h) (hk : hunkOk h = true) (hb : old.length ≤ 1048576) (hfP : frm ≤ P) (hPA : P + (oldS h.f5).length ≤ old.length) (ho : out.length ≤ 100000000) (hh : hits.length ≤ 100000000)
    (hp : Ev (fun k => apply_Find.g k old h (frm : Int) off (F : Int)) ((P : Int), 0, true)) (line : Int) {v : List ByteArray × List Hit × List Int × Int}
    (hline : line = wrap64 (wrap64 ((P : Int) + 1) + wrap64 (((out ++ cutL old (frm : Int) (P : Int)).length : Int) - (P : Int))))
    (hv : Ev (fun k => applyL k old (F : Int) t (i + 1) ((P + (oldS h.f5).length : Nat) : Int) ((P : Int) - statedI h) ((out ++ cutL old (frm : Int) (P : Int)) ++ newS h.f5) (hits ++ [⟨(i : Int), line, (P : Int) - statedI h, 0⟩]) rej) v) :
    Ev (fun k => applyL k old (F : Int) (h :: t) i (frm : Int) off out hits rej) v := by
  revert hline
  have hst := stated_in hk
  have hrows := hs.rows
  have hnl := newS_le h.f5
  have hsl := oldS_le h.f5
  have hpl : leftF h.f5 0 = some (h.f5, 0) := by
    have := p_left h.f5 0 (hunk_change hk) (by omega)
    rw [left0, skip0] at this
    exact this
  have hcl := cutL_length old (frm : Int) (P : Int) (by omega) (by omega) (by omega)
  have hg : (0 ≤ (frm : Int) ∧ (frm : Int) ≤ (P : Int) ∧ (P : Int) ≤ (old.length : Int)) ∧ ((out ++ cutL old (frm : Int) (P : Int)) ++ newS h.f5).length ≤ 8796093022208 ∧ hits.length < 4398046511104 := by
    refine ⟨⟨by omega, by omega, by omega⟩, ?_, by omega⟩
    rw [List.length_append, List.length_append]
    omega
  have b1 : -100000000000 ≤ (P : Int) - statedI h ∧ (P : Int) - statedI h ≤ 100000000000 := by omega
  have b2 : P + (oldS h.f5).length ≤ 100000000000 := by omega
  have b3 : (P : Int) ≤ 100000000000 := by omega
  intro hline
  have w0 : wrap64 ((P : Int) + 0) = (P : Int) := pw_add0 P b3
  have w1 : wrap64 ((P : Int) + ((oldS h.f5).length : Int)) = ((P + (oldS h.f5).length : Nat) : Int) := w_add P _ (Nat.le_trans b2 (by decide))
  have w2 : wrap64 ((P : Int) - statedI h) = (P : Int) - statedI h := pw_in _ b1
  unfold applyL
  refine Ev.bind hp (Ev.same (fun k => if_pos rfl) ?_)
  simp only [hpl, Option.bind_some]
  refine Ev.bind (p_sides2 h.f5 (by omega)) ?_
  rw [p_stated hk]
  simp only [Option.bind_some, w0]
  refine Ev.same (fun k => if_pos hg) ?_
  rw [w1, w2, ← hline]
  exact hv
end Go.Proofs.Ytkoagpnoaibdjaa.Pure
namespace Go.Proofs.Ytkoagpnoaibdjaa.Pure
open Go.RowKit Go.Proofs.Ytkoagpnoaibdjaa.Pp Go.Proofs.Ytkoagpnoaibdjaa.Ext Go.Proofs.YtkoagpnoaibdjaaW.PrintWords Go.Proofs.YtkoagpnoaibdjaaW.PrintLast Go.Proofs.YtkoagpnoaibdjaaW.PrintMore
set_option linter.unusedVariables false
set_option linter.unusedSimpArgs false
theorem rows_count : ∀ (l : List Row), (∀ r ∈ l, r.f0 = 1 ∨ r.f0 = 2 ∨ r.f0 = 3) → l.length ≤ (oldS l).length + (newS l).length
  | [], h => by simp
  | r :: t, h => by
    have ih := rows_count t (fun x hx => h x (List.mem_cons_of_mem _ hx))
    rw [oldS_cons, newS_cons]
    rcases kinds r with ⟨k, i1, i2⟩ | ⟨k, i1, i2⟩ | ⟨k, i1, i2⟩ | ⟨⟨k1, k2, k3⟩, _, _⟩
    · rw [if_pos i1, if_pos i2]; simp only [List.length_cons]; omega
    · rw [if_pos i1, if_neg (by rw [i2]; simp)]; simp only [List.length_cons]; omega
    · rw [if_neg (by rw [i1]; simp), if_pos i2]; simp only [List.length_cons]; omega
    · rcases h r List.mem_cons_self with h | h | h
      · exact absurd h k1
      · exact absurd h k2
      · exact absurd h k3
theorem row_text : ∀ (l : List Row), (∀ r ∈ l, r.f0 = 1 ∨ r.f0 = 2 ∨ r.f0 = 3) → ∀ r ∈ l, r.f1 ∈ oldS l ∨ r.f1 ∈ newS l := fun l h r hr => by
  rcases kinds r with ⟨k, i1, i2⟩ | ⟨k, i1, i2⟩ | ⟨k, i1, i2⟩ | ⟨⟨k1, k2, k3⟩, _, _⟩
  · exact Or.inl (List.mem_map.mpr ⟨r, List.mem_filter.mpr ⟨hr, i1⟩, rfl⟩)
  · exact Or.inl (List.mem_map.mpr ⟨r, List.mem_filter.mpr ⟨hr, i1⟩, rfl⟩)
  · exact Or.inr (List.mem_map.mpr ⟨r, List.mem_filter.mpr ⟨hr, i2⟩, rfl⟩)
  · rcases h r hr with h | h | h
    · exact absurd h k1
    · exact absurd h k2
    · exact absurd h k3
theorem cut_mem {l : List ByteArray} {a b : Int} : ∀ s ∈ cut l a b, s ∈ l := fun s h => List.mem_of_mem_take (List.mem_of_mem_drop h)
structure Two (A B : List ByteArray) : Prop where
  va : validL A = true
  vb : validL B = true
  len : A.length + B.length ≤ 1048576
  sa : Short A
  sb : Short B
theorem Two.turn {A B : List ByteArray} (h : Two A B) : Two B A := ⟨h.vb, h.va, by have := h.len; omega, h.sb, h.sa⟩
theorem piece_ok {A B : List ByteArray} {h : Hunk} {st e s2 e2 : Int} (p : Piece A B h st e s2 e2) (t : Two A B) : hunkOk h = true ∧ Small h ∧ statedI h = st := by
  obtain ⟨a0, a1, a2, b0, b1, b2, old, new, f0, f1, f2, f3, f4, kd, ch⟩ := p
  have hlen := t.len
  have l1 := cut_length A st e a0 a1 a2
  have l2 := cut_length B s2 e2 b0 b1 b2
  have k1 := cntOld_sides h.f5
  have k2 := cntNew_sides h.f5
  have k3 := rows_count h.f5 kd
  rw [old] at k1 k3
  rw [new] at k2 k3
  have hro := rowsOk_of h.f5 false false false kd (fun h => by cases h) (fun h => by cases h) (by rw [old]; exact valid_cut t.va _ _) (by rw [new]; exact valid_cut t.vb _ _) (Or.inr ch)
  have p1 : placeOk h.f0 h.f1 = true := by
    unfold placeOk
    rw [decide_eq_true_iff, f0, f1]
    by_cases c : e - st > 0
    · rw [if_pos c]; omega
    · rw [if_neg c]; omega
  have p2 : placeOk h.f2 h.f3 = true := by
    unfold placeOk
    rw [decide_eq_true_iff, f2, f3]
    by_cases c : e2 - s2 > 0
    · rw [if_pos c]; omega
    · rw [if_neg c]; omega
  have p3 : headOk h.f4 = true := by
    unfold headOk
    rw [f4, Bool.and_eq_true, Bool.not_eq_true', decide_eq_true_iff, decide_eq_false_iff_not]
    exact ⟨by decide, fun ⟨j, hj, _⟩ => by have : j < 0 := hj; omega⟩
  refine ⟨?_, ⟨by omega, fun r hr => ?_, by rw [f4]; decide, ?_, ?_⟩, ?_⟩
  · unfold hunkOk
    rw [hro, p1, p2, p3, decide_eq_true (by rw [f1]; omega : h.f1 = (cntOld h.f5 : Int)), decide_eq_true (by rw [f3]; omega : h.f3 = (cntNew h.f5 : Int))]
    rfl
  · rcases row_text h.f5 kd r hr with h' | h'
    · rw [old] at h'; exact short_at t.sa _ (cut_mem _ h')
    · rw [new] at h'; exact short_at t.sb _ (cut_mem _ h')
  · rw [f0]; split <;> omega
  · rw [f2]; split <;> omega
  · unfold statedI
    rw [f0, f1]
    by_cases c : e - st > 0
    · rw [if_pos c, if_neg (by omega)]; omega
    · rw [if_neg c, if_pos (by omega)]
theorem hl_ok {A B : List ByteArray} (t : Two A B) : ∀ (l : List Hunk) (a b : Int), HL A B l a b → ∀ h ∈ l, Small h ∧ hunkOk h = true
  | [], a, b, _, h, hh => by cases hh
  | x :: r, a, b, hl, h, hh => by
    obtain ⟨st, e, s2, e2, p, _, _, _, hl2⟩ := hl
    rcases List.mem_cons.mp hh with rfl | hh
    · obtain ⟨h1, h2, _⟩ := piece_ok p t
      exact ⟨h2, h1⟩
    · exact hl_ok t r _ _ hl2 h hh
structure PlainH (hits : List Hit) (n : Nat) : Prop where
  len : hits.length = n
  at' : ∀ (j : Nat) (x : Hit), hits[j]? = some x → x.f0 = (j : Int) ∧ x.f2 = 0 ∧ x.f3 = 0
theorem plain_nil : PlainH [] 0 := ⟨rfl, fun j x h => by simp at h⟩
theorem PlainH.snoc {hits : List Hit} {n : Nat} (h : PlainH hits n) (line : Int) : PlainH (hits ++ [⟨(n : Int), line, 0, 0⟩]) (n + 1) := by
  refine ⟨by rw [List.length_append, h.len]; rfl, fun j x hx => ?_⟩
  rw [List.getElem?_append] at hx
  split at hx
  · exact h.at' j x hx
  · rename_i hj
    have hn := h.len
    obtain ⟨d, hd⟩ : ∃ d, j - hits.length = d := ⟨_, rfl⟩
    rw [hd] at hx
    cases d with
    | zero =>
      obtain rfl : (⟨(n : Int), line, 0, 0⟩ : Hit) = x := by simpa using hx
      exact ⟨by show (n : Int) = _; omega, rfl, rfl⟩
    | succ d => simp at hx
theorem at_piece (A : List ByteArray) (st e : Int) (h0 : 0 ≤ st) (h1 : st ≤ e) (h2 : e ≤ (A.length : Int)) : atB A (cut A st e) st.toNat = true := by
  have hl := cut_length A st e h0 h1 h2
  unfold atB
  rw [decide_eq_true_iff]
  intro j hj
  rw [List.getD_eq_getElem?_getD, List.getD_eq_getElem?_getD, cut_get?, if_pos (by omega)]
theorem near_self (M : Int → Bool) (near lo hi : Int) (h1 : lo ≤ near) (h2 : near ≤ hi) (hM : M near = true) : Near M near lo hi (near, true) := by
  refine ⟨fun _ => ⟨h1, h2, hM, fun x hx1 hx2 hx => ?_⟩, fun h => by cases h⟩
  unfold dist
  simp only
  omega
theorem applyL_hl {A B : List ByteArray} (t : Two A B) (F : Nat) (hF : F ≤ 3) : ∀ (l : List Hunk) (a b : Int) (i : Nat) (out : List ByteArray) (hits : List Hit), HL A B l a b → 0 ≤ a → 0 ≤ b → out = cut B 0 b → PlainH hits i → i + l.length ≤ 100000000 →
    ∃ (o : List ByteArray) (hh : List Hit) (f : Nat), Ev (fun k => applyL k A (F : Int) l i a 0 out hits []) (o, hh, [], (f : Int)) ∧ f ≤ A.length ∧ o ++ cutL A (f : Int) (A.length : Int) = B ∧ PlainH hh (i + l.length)
  | [], a, b, i, out, hits, hl, ha, hb, ho, hp, hi => by
    obtain ⟨h1, h2, h3⟩ := hl
    obtain ⟨f, rfl⟩ := Int.eq_ofNat_of_zero_le ha
    refine ⟨out, hits, f, Ev.pure _, by omega, ?_, hp⟩
    rw [ho]
    show cut B 0 b ++ cut A (f : Int) (A.length : Int) = B
    rw [h3, cut_app B 0 b _ (Int.le_refl _) hb h2 (Int.le_refl _), cut_all]
  | h :: r, a, b, i, out, hits, hl, ha, hb, ho, hp, hi => by
    obtain ⟨st, e, s2, e2, p, q1, q2, q3, hl2⟩ := hl
    obtain ⟨hk, hs, hst⟩ := piece_ok p t
    have hlen := t.len
    have p0 := p.a0
    have p1 := p.a1
    have p2 := p.a2
    have p3 := p.b0
    have p4 := p.b1
    have p5 := p.b2
    have l1 := cut_length A st e p0 p1 p2
    have l2 := cut_length B s2 e2 p3 p4 p5
    have l3 := cut_length B 0 b (Int.le_refl _) hb (by omega)
    have hold := p.old
    have hnew := p.new
    obtain ⟨f, rfl⟩ := Int.eq_ofNat_of_zero_le ha
    obtain ⟨P, rfl⟩ := Int.eq_ofNat_of_zero_le p0
    have hhit := hp.len
    simp only [List.length_cons] at hi
    have hfind : Ev (fun k => apply_Find.g k A h (f : Int) 0 (F : Int)) ((P : Int), 0, true) := by
      refine find_hit A h f 0 (P : Int) F hF hs hk (by omega) (by omega) (by rw [hold]; omega) ?_
      rw [hst, Int.add_zero, hold]
      exact near_self _ _ _ _ q1 (by omega) (by have := at_piece A (P : Int) e p0 p1 p2; exact this)
    obtain ⟨o, hh, f', e1, e2', e3, e4⟩ := applyL_hl t F hF r e e2 (i + 1) ((out ++ cutL A (f : Int) (P : Int)) ++ newS h.f5)
      (hits ++ [⟨(i : Int), wrap64 (wrap64 ((P : Int) + 1) + wrap64 (((out ++ cutL A (f : Int) (P : Int)).length : Int) - (P : Int))), 0, 0⟩]) hl2 (by omega) (by omega) (by
        rw [ho, hnew]
        show (cut B 0 b ++ cut A (f : Int) (P : Int)) ++ cut B s2 e2 = _
        rw [q3, cut_app B 0 b s2 (Int.le_refl _) hb q2 (by omega), cut_app B 0 s2 e2 (Int.le_refl _) p3 p4 p5]) (hp.snoc _) (by omega)
    refine ⟨o, hh, f', ?_, e2', e3, by rw [List.length_cons, show i + (r.length + 1) = i + 1 + r.length by omega]; exact e4⟩
    refine apply_step A h r i f P F 0 out hits [] hs hk (by omega) (by omega) (by rw [hold]; omega) (by rw [ho]; omega) (by omega) hfind _ rfl ?_
    rw [hst, hold, Int.sub_self, show ((P + (cut A (P : Int) e).length : Nat) : Int) = e by omega]
    exact e1
theorem apply_hl {A B : List ByteArray} (t : Two A B) (l : List Hunk) (hl : HL A B l 0 0) (hc : l.length ≤ 1048576) (z : Int) (hz : 0 ≤ z ∧ z ≤ 3) : ∃ hits, PlainH hits l.length ∧ Ev (fun k => apply_Apply.f k A l z) (B, hits, [], none) := by
  obtain ⟨F, rfl⟩ : ∃ F : Nat, z = (F : Int) := ⟨z.toNat, by omega⟩
  have hlen := t.len
  have hsA : ∀ s ∈ A, s.size ≤ 4000000000 := fun s hs => by
    have : s.size ≤ 1048576 := short_at t.sa s hs
    omega
  have hsB : ∀ s ∈ B, s.size ≤ 4000000000 := fun s hs => by
    have : s.size ≤ 1048576 := short_at t.sb s hs
    omega
  have v1 := p_valid A (by omega) hsA
  have v2 := p_valid B (by omega) hsB
  rw [t.va] at v1
  rw [t.vb] at v2
  have hok := hl_ok t l 0 0 hl
  obtain ⟨x, b1, b2⟩ := p_bad l (fun h hh => (hok h hh).1) 0
  have hall : l.all hunkOk = true := List.all_eq_true.mpr fun h hh => (hok h hh).2
  rw [hall] at b2
  obtain ⟨o, hh, f, e1, e2, e3, e4⟩ := applyL_hl t F (by omega) l 0 0 0 [] [] hl (Int.le_refl _) (Int.le_refl _) (cut_self B 0).symm plain_nil (by omega)
  rw [Nat.zero_add] at e4
  refine ⟨hh, e4, ?_⟩
  have hg : (0 ≤ (f : Int) ∧ (f : Int) ≤ (A.length : Int)) ∧ B.length ≤ 8796093022208 := ⟨⟨by omega, by omega⟩, by omega⟩
  unfold apply_Apply.f
  refine Ev.same (fun k => if_neg (by omega)) (Ev.same (fun k => if_neg (by omega)) (Ev.bind v1 (Ev.same (fun k => if_pos rfl) (Ev.same (fun k => if_pos (by omega)) ?_))))
  rw [b1]
  refine Ev.same (fun k => if_neg (fun hh => by have := b2.mp hh; cases this)) (Ev.bind e1 ?_)
  simp only [e3]
  exact Ev.same (fun k => if_pos hg) (Ev.bind v2 (Ev.same (fun k => if_pos rfl) (Ev.pure _)))
end Go.Proofs.Ytkoagpnoaibdjaa.Pure
namespace Go.Proofs.Ytkoagpnoaibdjaa.Pure
open Go.RowKit Go.Proofs.Ytkoagpnoaibdjaa.Pp Go.Proofs.Ytkoagpnoaibdjaa.Ext Go.Proofs.YtkoagpnoaibdjaaW.PrintWords Go.Proofs.YtkoagpnoaibdjaaW.PrintLast Go.Proofs.YtkoagpnoaibdjaaW.PrintMore
set_option linter.unusedVariables false
set_option linter.unusedSimpArgs false
theorem mem_sum {α : Type} (f : α → Nat) : ∀ (l : List α), ∀ x ∈ l, f x ≤ (l.map f).sum
  | [], x, hx => by cases hx
  | y :: t, x, hx => by
    rw [List.map_cons, List.sum_cons]
    rcases List.mem_cons.mp hx with rfl | hx
    · omega
    · have := mem_sum f t x hx
      omega
theorem len_sum {α : Type} (f : α → Nat) (c : Nat) (hf : ∀ x, c ≤ f x) : ∀ (l : List α), c * l.length ≤ (l.map f).sum
  | [] => by simp
  | y :: t => by
    have h1 := len_sum f c hf t
    have h2 := hf y
    rw [List.map_cons, List.sum_cons, List.length_cons, Nat.mul_succ]
    omega
theorem same_loop (l : List ByteArray) (hl : l.length ≤ 4000000000) (d : Nat) : ∀ i : Nat, i + d = l.length → Ev (fun k => selvagelaw17_same.l0 k l l (i : Int)) true := by
  induction d with
  | zero =>
    intro i h
    exact Ev.step (f := fun _ => some true) (fun k => by rw [selvagelaw17_same.l0, if_neg (by omega)]) (Ev.pure _)
  | succ d ih =>
    intro i h
    have w1 : wrap64 ((i : Int) + 1) = ((i + 1 : Nat) : Int) := w_add i 1 (by omega)
    refine Ev.step (fun k => ?_) (ih (i + 1) (by omega))
    rw [selvagelaw17_same.l0, w1, if_pos (by omega), if_pos (by omega), if_pos (by omega), if_pos rfl]
theorem same_at (l : List ByteArray) (hl : l.length ≤ 4000000000) : Ev (fun k => selvagelaw17_same.f k l l) true :=
  Ev.same (fun k => by unfold selvagelaw17_same.f; rw [if_pos rfl]; rfl) (same_loop l hl l.length 0 (by omega))
theorem sure_60 : selvagelaw17_sure.f 60 = some true := by decide +kernel
theorem ev_sure : Ev (fun k => selvagelaw17_sure.f k) true := Ev.of (fun k => selvagelaw17_sure.mono k) sure_60
theorem ev_sure2 : Ev (fun k => (selvagelaw17_sure.f k).bind fun t => some t) true := Ev.bind ev_sure (Ev.pure _)
theorem common_run (S : List Chg) (A B : List ByteArray) (c f : Int) (hA : A.length ≤ 1048576) (hB : B.length ≤ 1048576) (i tt : Int) (ht : tt ≤ (A.length : Int)) (d : Nat) : ∀ (a b : Int), 0 ≤ a → 0 ≤ b → a + (d : Int) = tt → b + (d : Int) ≤ (B.length : Int) → ∀ w : Bool,
    Ev (fun k => selvagelaw17_common.l1 k tt (b + (d : Int)) i tt S A B c f) w → ∃ v, Ev (fun k => selvagelaw17_common.l1 k a b i tt S A B c f) v ∧ (v = true → w = true ∧ agree A B a b (d : Int)) := by
  induction d with
  | zero =>
    intro a b ha hb h1 h2 w hw
    obtain rfl : a = tt := by omega
    refine ⟨w, ?_, fun h => ⟨h, fun i h0 h1 => by omega⟩⟩
    rw [show b + ((0 : Nat) : Int) = b by omega] at hw
    exact hw
  | succ d ih =>
    intro a b ha hb h1 h2 w hw
    have w1 : wrap64 (a + 1) = a + 1 := w64' (by omega) (by omega)
    have w2 : wrap64 (b + 1) = b + 1 := w64' (by omega) (by omega)
    by_cases he : (rdOf ByteArray.empty A a).toList = (rdOf ByteArray.empty B b).toList
    · obtain ⟨v, hv, hv2⟩ := ih (a + 1) (b + 1) (by omega) (by omega) (by omega) (by omega) w (by rw [show b + 1 + (d : Int) = b + ((d + 1 : Nat) : Int) by omega]; exact hw)
      refine ⟨v, Ev.step (fun k => by rw [selvagelaw17_common.l1, if_pos (by omega), if_neg (by omega), if_pos ha, if_pos (by omega), if_pos hb, if_pos (by omega), if_pos he, w1, w2]) hv, fun h => ⟨(hv2 h).1, fun j h0 h3 => ?_⟩⟩
      by_cases hj : j = 0
      · subst hj
        rw [Int.add_zero, Int.add_zero]
        exact (toList_eq_iff _ _).mp he
      · have := (hv2 h).2 (j - 1) (by omega) (by omega)
        rw [show a + 1 + (j - 1) = a + j by omega, show b + 1 + (j - 1) = b + j by omega] at this
        exact this
    · exact ⟨false, Ev.step (f := fun _ => some false) (fun k => by rw [selvagelaw17_common.l1, if_pos (by omega), if_neg (by omega), if_pos ha, if_pos (by omega), if_pos hb, if_pos (by omega), if_neg he]) (Ev.pure _), fun h => by cases h⟩
theorem common_main (S : List Chg) (A B : List ByteArray) (c f : Int) (hA : A.length ≤ 1048576) (hB : B.length ≤ 1048576) (hS : S.length ≤ 4000000000) (d : Nat) : ∀ (i : Nat) (a b : Int), i + d = S.length → validP (A.length : Int) (B.length : Int) (S.drop i) a b → 0 ≤ a → 0 ≤ b → a ≤ (A.length : Int) →
    ∃ v, Ev (fun k => selvagelaw17_common.l0 k a b (i : Int) S A B c f) v ∧ (v = true → comG A B (A.length : Int) (S.drop i) a b) := by
  induction d with
  | zero =>
    intro i a b hi hv ha hb han
    rw [List.drop_of_length_le (by omega)] at hv ⊢
    have hv' : (A.length : Int) - a = (B.length : Int) - b := hv
    obtain ⟨n, hn⟩ := Int.eq_ofNat_of_zero_le (show 0 ≤ (A.length : Int) - a by omega)
    have c1 : ¬ (A.length : Int) < (A.length : Int) := by omega
    have c2 : ¬ (i : Int) < (S.length : Int) := by omega
    have c3 : ¬ ((i + 1 : Nat) : Int) ≤ (S.length : Int) := by omega
    have c4 : (i : Int) ≤ (S.length : Int) := by omega
    have w1 : wrap64 ((i : Int) + 1) = ((i + 1 : Nat) : Int) := w_add i 1 (by omega)
    have hend : Ev (fun k => selvagelaw17_common.l1 k (A.length : Int) (b + (n : Int)) (i : Int) (A.length : Int) S A B c f) true := by
      refine Ev.step (fun k => by rw [selvagelaw17_common.l1, if_neg c1, if_neg c2, w1]) ?_
      exact Ev.step (f := fun _ => some true) (fun k => by rw [selvagelaw17_common.l0, if_neg c3]) (Ev.pure _)
    clear w1
    obtain ⟨v, h1, h2⟩ := common_run S A B c f hA hB (i : Int) (A.length : Int) (Int.le_refl _) n a b ha hb (by omega) (by omega) true hend
    refine ⟨v, ?_, fun h => ?_⟩
    · refine Ev.step (fun k => by rw [selvagelaw17_common.l0, if_pos c4, if_neg c2]) ?_
      exact Ev.step (fun k => by rw [selvagelaw17_common.j1]) h1
    · show agree A B a b ((A.length : Int) - a)
      rw [hn]
      exact (h2 h).2
  | succ d ih =>
    intro i a b hi hv ha hb han
    have hil : i < S.length := by omega
    obtain ⟨x, hx⟩ : ∃ x, x = rd_T57 S (i : Int) := ⟨_, rfl⟩
    have hdr : S.drop i = x :: S.drop (i + 1) := by rw [hx]; exact drop57 S i hil
    rw [hdr] at hv ⊢
    obtain ⟨⟨q1, q2, q3, q4, q5, q6, q7, q8, q9, q10⟩, hv2⟩ := hv
    obtain ⟨w, hw, hw2⟩ := ih (i + 1) (x.f0 + x.f1) (x.f2 + x.f3) (by omega) hv2 (by omega) (by omega) (by omega)
    obtain ⟨n, hn⟩ := Int.eq_ofNat_of_zero_le (show 0 ≤ x.f0 - a by omega)
    have c1 : ¬ x.f0 < x.f0 := by omega
    have c2 : (i : Int) < (S.length : Int) := by omega
    have c3 : (0 : Int) ≤ (i : Int) := by omega
    have c4 : (i : Int) ≤ (S.length : Int) := by omega
    have c5 : b + (n : Int) = x.f2 := by omega
    have c6 : a + (n : Int) = x.f0 := by omega
    have c7 : b + (n : Int) ≤ (B.length : Int) := by omega
    have w2 : wrap64 (x.f0 + x.f1) = x.f0 + x.f1 := w64' (by omega) (by omega)
    have w3 : wrap64 (x.f2 + x.f3) = x.f2 + x.f3 := by clear w2; exact w64' (by omega) (by omega)
    have w1 : wrap64 ((i : Int) + 1) = ((i + 1 : Nat) : Int) := w_add i 1 (by clear w2 w3; omega)
    have hend : Ev (fun k => selvagelaw17_common.l1 k x.f0 (b + (n : Int)) (i : Int) x.f0 S A B c f) w := by
      rw [c5]
      exact Ev.step (fun k => by rw [selvagelaw17_common.l1, if_neg c1, if_pos c2, if_pos c3, ← hx, w1, w2, w3]) hw
    obtain ⟨v, h1, h2⟩ := common_run S A B c f hA hB (i : Int) x.f0 q5 n a b ha hb c6 c7 w hend
    refine ⟨v, ?_, fun h => ⟨?_, hw2 (h2 h).1⟩⟩
    · refine Ev.step (fun k => by rw [selvagelaw17_common.l0, if_pos c4, if_pos c2, if_pos c3, ← hx]) ?_
      exact Ev.step (fun k => by rw [selvagelaw17_common.j1]) h1
    · rw [hn]
      exact (h2 h).2
theorem common_at (S : List Chg) (A B : List ByteArray) (c f : Int) (hA : A.length ≤ 1048576) (hB : B.length ≤ 1048576) (hS : S.length ≤ 4000000000) (hv : validP (A.length : Int) (B.length : Int) S 0 0) :
    ∃ v, Ev (fun k => selvagelaw17_common.f k S A B c f) v ∧ (v = true → comG A B (A.length : Int) S 0 0) :=
  common_main S A B c f hA hB hS S.length 0 0 0 (by omega) hv (Int.le_refl _) (Int.le_refl _) (by omega)
end Go.Proofs.Ytkoagpnoaibdjaa.Pure
namespace Go.Proofs.Ytkoagpnoaibdjaa.Pure
open Go.RowKit Go.Proofs.Ytkoagpnoaibdjaa.Pp Go.Proofs.Ytkoagpnoaibdjaa.Ext Go.Proofs.YtkoagpnoaibdjaaW.PrintWords Go.Proofs.YtkoagpnoaibdjaaW.PrintLast Go.Proofs.YtkoagpnoaibdjaaW.PrintMore
set_option linter.unusedVariables false
set_option linter.unusedSimpArgs false
def turnL : List Row → List Row → List Row → List Row → List Row
  | [], out, x, n => out ++ x ++ n
  | r :: t, out, x, n => if r.f0 = 2 then turnL t out x (n ++ [⟨3, r.f1⟩]) else if r.f0 = 3 then turnL t out (x ++ [⟨2, r.f1⟩]) n else turnL t ((out ++ x ++ n) ++ [r]) [] []
def turnH (h : Hunk) : Hunk := ⟨h.f2, h.f3, h.f0, h.f1, h.f4, turnL h.f5 [] [] []⟩
theorem oldS_one (r : Row) : oldS [r] = if isOld r = true then [r.f1] else [] := oldS_cons r []
theorem newS_one (r : Row) : newS [r] = if isNew r = true then [r.f1] else [] := newS_cons r []
theorem turn_old : ∀ (l out x n : List Row), (oldS n = []) → oldS (turnL l out x n) = oldS out ++ oldS x ++ newS l
  | [], out, x, n, h => by rw [turnL, oldS_app, oldS_app, h]; rfl
  | r :: t, out, x, n, h => by
    rw [turnL, newS_cons]
    by_cases c2 : r.f0 = 2
    · rw [if_pos c2, turn_old t out x _ (by rw [oldS_app, h]; rfl), if_neg (by simp [isNew, c2])]
    · rw [if_neg c2]
      by_cases c3 : r.f0 = 3
      · rw [if_pos c3, turn_old t out _ n h, oldS_app, if_pos (by simp [isNew, c3]), oldS_one, if_pos (by rfl)]
        simp
      · rw [if_neg c3, turn_old t _ [] [] rfl, oldS_app, oldS_app, oldS_app, h, oldS_one]
        have e : isOld r = isNew r := by unfold isOld isNew; rw [beq_false_of_ne c2, beq_false_of_ne c3]
        rw [e]
        by_cases c1 : isNew r = true
        · rw [if_pos c1, if_pos c1]; simp [oldS]
        · rw [if_neg c1, if_neg c1]; simp [oldS]
theorem turn_new : ∀ (l out x n : List Row), (newS x = []) → newS (turnL l out x n) = newS out ++ newS n ++ oldS l
  | [], out, x, n, h => by rw [turnL, newS_app, newS_app, h]; simp [oldS]
  | r :: t, out, x, n, h => by
    rw [turnL, oldS_cons]
    by_cases c2 : r.f0 = 2
    · rw [if_pos c2, turn_new t out x _ h, newS_app, if_pos (by simp [isOld, c2]), newS_one, if_pos (by rfl)]
      simp
    · rw [if_neg c2]
      by_cases c3 : r.f0 = 3
      · rw [if_pos c3, turn_new t out _ n (by rw [newS_app, h]; rfl), if_neg (by simp [isOld, c3])]
      · rw [if_neg c3, turn_new t _ [] [] rfl, newS_app, newS_app, newS_app, h, newS_one]
        have e : isOld r = isNew r := by unfold isOld isNew; rw [beq_false_of_ne c2, beq_false_of_ne c3]
        rw [e]
        by_cases c1 : isNew r = true
        · rw [if_pos c1, if_pos c1]; simp [newS]
        · rw [if_neg c1, if_neg c1]; simp [newS]
theorem turn_kinds : ∀ (l out x n : List Row), (∀ r ∈ l, r.f0 = 1 ∨ r.f0 = 2 ∨ r.f0 = 3) → (∀ r ∈ out ++ x ++ n, r.f0 = 1 ∨ r.f0 = 2 ∨ r.f0 = 3) → ∀ r ∈ turnL l out x n, r.f0 = 1 ∨ r.f0 = 2 ∨ r.f0 = 3
  | [], out, x, n, h, ho, r, hr => ho r hr
  | y :: t, out, x, n, h, ho, r, hr => by
    have ht : ∀ z ∈ t, z.f0 = 1 ∨ z.f0 = 2 ∨ z.f0 = 3 := fun z hz => h z (List.mem_cons_of_mem _ hz)
    rw [turnL] at hr
    split at hr
    · refine turn_kinds t _ _ _ ht (fun z hz => ?_) r hr
      rw [← List.append_assoc] at hz
      rcases List.mem_append.mp hz with hz | hz
      · exact ho z hz
      · rw [List.mem_singleton.mp hz]; exact Or.inr (Or.inr rfl)
    · split at hr
      · refine turn_kinds t _ _ _ ht (fun z hz => ?_) r hr
        rcases List.mem_append.mp hz with hz | hz
        · rcases List.mem_append.mp hz with hz | hz
          · exact ho z (List.mem_append_left _ (List.mem_append_left _ hz))
          · rcases List.mem_append.mp hz with hz | hz
            · exact ho z (List.mem_append_left _ (List.mem_append_right _ hz))
            · rw [List.mem_singleton.mp hz]; exact Or.inr (Or.inl rfl)
        · exact ho z (List.mem_append_right _ hz)
      · refine turn_kinds t _ _ _ ht (fun z hz => ?_) r hr
        rw [List.append_nil, List.append_nil] at hz
        rcases List.mem_append.mp hz with hz | hz
        · exact ho z hz
        · rw [List.mem_singleton.mp hz]; exact h y List.mem_cons_self
theorem turn_change : ∀ (l out x n : List Row), ((∃ r ∈ l, r.f0 = 2 ∨ r.f0 = 3) ∨ ∃ r ∈ out ++ x ++ n, r.f0 ≠ 1) → ∃ r ∈ turnL l out x n, r.f0 ≠ 1
  | [], out, x, n, h => by
    rcases h with ⟨r, hr, _⟩ | h
    · cases hr
    · exact h
  | y :: t, out, x, n, h => by
    rw [turnL]
    by_cases c2 : y.f0 = 2
    · rw [if_pos c2]
      exact turn_change t _ _ _ (Or.inr ⟨⟨3, y.f1⟩, List.mem_append_right _ (List.mem_append_right _ (List.mem_singleton.mpr rfl)), (show (3 : Int) ≠ 1 by decide)⟩)
    · rw [if_neg c2]
      by_cases c3 : y.f0 = 3
      · rw [if_pos c3]
        exact turn_change t _ _ _ (Or.inr ⟨⟨2, y.f1⟩, List.mem_append_left _ (List.mem_append_right _ (List.mem_append_right _ (List.mem_singleton.mpr rfl))), (show (2 : Int) ≠ 1 by decide)⟩)
      · rw [if_neg c3]
        refine turn_change t _ _ _ ?_
        rcases h with ⟨r, hr, hk⟩ | ⟨r, hr, hk⟩
        · rcases List.mem_cons.mp hr with rfl | hr
          · rcases hk with hk | hk
            · exact absurd hk c2
            · exact absurd hk c3
          · exact Or.inl ⟨r, hr, hk⟩
        · refine Or.inr ⟨r, ?_, hk⟩
          rw [List.append_nil, List.append_nil]
          exact List.mem_append_left _ hr
theorem Piece.turn {A B : List ByteArray} {h : Hunk} {st e s2 e2 : Int} (p : Piece A B h st e s2 e2) : Piece B A (turnH h) s2 e2 st e := by
  obtain ⟨a0, a1, a2, b0, b1, b2, old, new, f0, f1, f2, f3, f4, kd, ch⟩ := p
  refine ⟨b0, b1, b2, a0, a1, a2, ?_, ?_, f2, f3, f0, f1, f4, turn_kinds h.f5 [] [] [] kd (fun r hr => by cases hr), turn_change h.f5 [] [] [] (Or.inl ?_)⟩
  · show oldS (turnL h.f5 [] [] []) = _
    rw [turn_old h.f5 [] [] [] rfl, new]
    rfl
  · show newS (turnL h.f5 [] [] []) = _
    rw [turn_new h.f5 [] [] [] rfl, old]
    rfl
  · obtain ⟨r, hr, hk⟩ := ch
    refine ⟨r, hr, ?_⟩
    rcases kd r hr with k | k | k
    · exact absurd k hk
    · exact Or.inl k
    · exact Or.inr k
theorem HL.turn {A B : List ByteArray} : ∀ (l : List Hunk) (a b : Int), HL A B l a b → HL B A (l.map turnH) b a
  | [], a, b, h => ⟨h.2.1, h.1, h.2.2.symm⟩
  | h :: t, a, b, hl => by
    obtain ⟨st, e, s2, e2, p, q1, q2, q3, hl2⟩ := hl
    exact ⟨s2, e2, st, e, p.turn, q2, q1, q3.symm, HL.turn t _ _ hl2⟩
end Go.Proofs.Ytkoagpnoaibdjaa.Pure
namespace Go.Proofs.Ytkoagpnoaibdjaa.Pure
open Go.RowKit Go.Proofs.Ytkoagpnoaibdjaa.Pp Go.Proofs.Ytkoagpnoaibdjaa.Ext Go.Proofs.YtkoagpnoaibdjaaW.PrintWords Go.Proofs.YtkoagpnoaibdjaaW.PrintLast Go.Proofs.YtkoagpnoaibdjaaW.PrintMore
set_option linter.unusedVariables false
set_option linter.unusedSimpArgs false
theorem kind_loop (l : List Row) (o : Int) (hl : l.length ≤ 4000000000) (d : Nat) : ∀ (i : Nat) (x : List Row), i + d = l.length → x.length ≤ i → Ev (fun k => selvageref10_kinded.l0 k l o x (i : Int)) (x ++ (l.drop i).filter fun r => r.f0 == o) := by
  induction d with
  | zero =>
    intro i x h hx
    rw [List.drop_of_length_le (by omega), List.filter_nil, List.append_nil]
    exact Ev.step (f := fun _ => some x) (fun k => by rw [selvageref10_kinded.l0, if_neg (by omega)]) (Ev.pure _)
  | succ d ih =>
    intro i x h hx
    have w1 : wrap64 ((i : Int) + 1) = ((i + 1 : Nat) : Int) := w_add i 1 (by omega)
    have hdr := drop_by l z72 i (by omega)
    rw [hdr, List.filter_cons]
    have hrd : rd_T72 l (i : Int) = l.getD i z72 := rd_row l i
    by_cases hk : (l.getD i z72).f0 = o
    · rw [if_pos (beq_iff_eq.mpr hk)]
      have := ih (i + 1) (x ++ [l.getD i z72]) (by omega) (by simp; omega)
      rw [List.append_assoc, List.singleton_append] at this
      exact Ev.step (fun k => by rw [selvageref10_kinded.l0, if_pos (by omega), if_pos (by omega), hrd, if_pos hk, if_pos (by omega), w1]) this
    · rw [if_neg (fun hh => hk (beq_iff_eq.mp hh))]
      exact Ev.step (fun k => by rw [selvageref10_kinded.l0, if_pos (by omega), if_pos (by omega), hrd, if_neg hk, w1]) (ih (i + 1) x (by omega) (by omega))
theorem kind_at (l : List Row) (o : Int) (hl : l.length ≤ 4000000000) : Ev (fun k => selvageref10_kinded.f k l o) (l.filter fun r => r.f0 == o) := by
  have := kind_loop l o hl l.length 0 [] (by omega) (by simp)
  rw [List.drop_zero, List.nil_append] at this
  exact this
theorem kind_len (l : List Row) (o : Int) : (l.filter fun r => r.f0 == o).length ≤ l.length := List.length_filter_le _ _
def swapR (r : Row) : Row := if r.f0 = 2 then ⟨3, r.f1⟩ else if r.f0 = 3 then ⟨2, r.f1⟩ else r
theorem sort_loop (L : List Row) (hL : L.length ≤ 1000000000) (d : Nat) : ∀ (i : Nat) (t : List Row) (out run x n : List Row), i + d = L.length → L.drop i = t.map swapR → out.length + run.length ≤ i → x.length + n.length ≤ run.length → (run.filter fun r => r.f0 == 2) = x → (run.filter fun r => r.f0 == 3) = n →
    Ev (fun k => selvageref10_Sorted.l0 k L out run (i : Int)) (turnL t out x n) := by
  induction d with
  | zero =>
    intro i t out run x n h ht hr hxn hx hn
    rw [List.drop_of_length_le (by omega)] at ht
    cases t with
    | cons => cases ht
    | nil =>
      have k1 := kind_at run 2 (by omega)
      have k2 := kind_at run 3 (by omega)
      have l1 := kind_len run 2
      have l2 := kind_len run 3
      rw [hx] at k1 l1
      rw [hn] at k2 l2
      refine Ev.step (fun k => by rw [selvageref10_Sorted.l0, if_neg (by omega)]) ?_
      refine Ev.bind k1 (Ev.same (fun k => if_pos (by omega)) ?_)
      refine Ev.same (fun k => Option.bind_some _ _) (Ev.bind k2 (Ev.same (fun k => if_pos (by rw [List.length_append]; omega)) ?_))
      exact Ev.pure _
  | succ d ih =>
    intro i t out run x n h ht hr hxn hx hn
    cases t with
    | nil =>
      have := congrArg List.length ht
      rw [List.length_drop] at this
      simp at this
      omega
    | cons r t =>
      have w1 : wrap64 ((i : Int) + 1) = ((i + 1 : Nat) : Int) := w_add i 1 (by omega)
      have hdr := drop_by L z72 i (by omega)
      rw [hdr, List.map_cons] at ht
      obtain ⟨hg, ht2⟩ := List.cons.inj ht
      have hrd : rd_T72 L (i : Int) = swapR r := (rd_row L i).trans hg
      have heta : (⟨(swapR r).f0, (swapR r).f1⟩ : Row) = swapR r := rfl
      have c1 : (i : Int) < (L.length : Int) := by omega
      have c0 : (0 : Int) ≤ (i : Int) := by omega
      by_cases q2 : r.f0 = 2
      · have hs : swapR r = ⟨3, r.f1⟩ := by unfold swapR; rw [if_pos q2]
        rw [turnL, if_pos q2]
        have e3 : ((run ++ [swapR r]).filter fun r => r.f0 == 2) = x := by rw [List.filter_append, hx, hs]; simp
        have e4 : ((run ++ [swapR r]).filter fun r => r.f0 == 3) = n ++ [⟨3, r.f1⟩] := by rw [List.filter_append, hn, hs]; simp
        have := ih (i + 1) t out (run ++ [swapR r]) x (n ++ [⟨3, r.f1⟩]) (by omega) ht2 (by simp; omega) (by simp; omega) e3 e4
        refine Ev.step (fun k => by rw [selvageref10_Sorted.l0, if_pos c1, if_pos c0, hrd, if_neg (by rw [hs]; simp), hs]) ?_
        rw [hs] at this
        refine Ev.step (fun k => by rw [selvageref10_Sorted.j1]) ?_
        refine Ev.same (fun k => if_pos rfl) ?_
        exact Ev.same (fun k => by rw [if_pos c0, if_pos c1, if_pos (by omega), hrd, hs, w1]) this
      · by_cases q3 : r.f0 = 3
        · have hs : swapR r = ⟨2, r.f1⟩ := by unfold swapR; rw [if_neg q2, if_pos q3]
          rw [turnL, if_neg q2, if_pos q3]
          have e3 : ((run ++ [swapR r]).filter fun r => r.f0 == 2) = x ++ [⟨2, r.f1⟩] := by rw [List.filter_append, hx, hs]; simp
          have e4 : ((run ++ [swapR r]).filter fun r => r.f0 == 3) = n := by rw [List.filter_append, hn, hs]; simp
          have := ih (i + 1) t out (run ++ [swapR r]) (x ++ [⟨2, r.f1⟩]) n (by omega) ht2 (by simp; omega) (by simp; omega) e3 e4
          refine Ev.step (fun k => by rw [selvageref10_Sorted.l0, if_pos c1, if_pos c0, hrd, if_pos (by rw [hs])]) ?_
          rw [hs] at this
          refine Ev.step (fun k => by rw [selvageref10_Sorted.j1]) ?_
          refine Ev.same (fun k => if_pos rfl) ?_
          exact Ev.same (fun k => by rw [if_pos c0, if_pos c1, if_pos (by omega), hrd, hs, w1]) this
        · have hs : swapR r = r := by unfold swapR; rw [if_neg q2, if_neg q3]
          rw [turnL, if_neg q2, if_neg q3]
          have k1 := kind_at run 2 (by omega)
          have k2 := kind_at run 3 (by omega)
          have l1 := kind_len run 2
          have l2 := kind_len run 3
          rw [hx] at k1 l1
          rw [hn] at k2 l2
          have hrun := ih (i + 1) t (((out ++ x) ++ n) ++ [swapR r]) [] [] [] (by omega) ht2 (by simp; omega) (by simp) rfl rfl
          rw [hs] at hrun
          refine Ev.step (fun k => by rw [selvageref10_Sorted.l0, if_pos c1, if_pos c0, hrd, if_neg (by rw [hs]; exact q2), beq_eq_false_iff_ne.mpr (by rw [hs]; exact q3)]) ?_
          refine Ev.step (fun k => by rw [selvageref10_Sorted.j1, if_neg (by simp)]) ?_
          refine Ev.bind k1 (Ev.same (fun k => if_pos (by omega)) ?_)
          refine Ev.same (fun k => Option.bind_some _ _) (Ev.bind k2 (Ev.same (fun k => if_pos (by rw [List.length_append]; omega)) ?_))
          refine Ev.same (fun k => Option.bind_some _ _) (Ev.same (fun k => by rw [if_pos c0, if_pos c1, if_pos (by simp; omega), hrd, w1]) ?_)
          rw [hs]
          exact hrun
theorem sort_at (t : List Row) (ht : t.length ≤ 1000000000) : Ev (fun k => selvageref10_Sorted.f k (t.map swapR)) (turnL t [] [] []) := by
  have hl : (t.map swapR).length = t.length := List.length_map _
  exact sort_loop (t.map swapR) (by omega) (t.map swapR).length 0 t [] [] [] [] (by omega) (List.drop_zero) (by simp) (by simp) rfl rfl
theorem rev_loop (R : List Row) (hR : R.length ≤ 1000000000) (h0 h1 h2 h3 : Int) (h4 : ByteArray) (d : Nat) : ∀ (i : Nat) (x : List Row), i + d = R.length → x = (R.take i).map swapR → Ev (fun k => selvageref10_Reverse.l0 k x (i : Int) h0 h1 h2 h3 h4 R) (h2, h3, h0, h1, h4, turnL R [] [] []) := by
  induction d with
  | zero =>
    intro i x h hx
    rw [List.take_of_length_le (by omega)] at hx
    have hs := sort_at R hR
    rw [← hx] at hs
    exact Ev.step (fun k => by rw [selvageref10_Reverse.l0, if_neg (by omega)]) (Ev.bind hs (Ev.pure _))
  | succ d ih =>
    intro i x h hx
    have w1 : wrap64 ((i : Int) + 1) = ((i + 1 : Nat) : Int) := w_add i 1 (by omega)
    have hi : i < R.length := by omega
    have hrd : rd_T72 R (i : Int) = R.getD i z72 := rd_row R i
    obtain ⟨r, hr⟩ : ∃ r, r = R.getD i z72 := ⟨_, rfl⟩
    rw [← hr] at hrd
    have hxl : x.length = i := by rw [hx, List.length_map, List.length_take]; omega
    have hnx : x ++ [swapR r] = (R.take (i + 1)).map swapR := by
      rw [hx, List.take_add_one, List.map_append, hr, List.getD_eq_getElem?_getD, List.getElem?_eq_getElem hi]
      rfl
    have hg := ih (i + 1) (x ++ [swapR r]) (by omega) hnx
    by_cases q2 : r.f0 = 2
    · have hs : swapR r = ⟨3, r.f1⟩ := by unfold swapR; rw [if_pos q2]
      rw [hs] at hg
      exact Ev.step (fun k => by rw [selvageref10_Reverse.l0, if_pos (by omega), if_pos (by omega), hrd, if_pos q2, if_pos (by omega), w1]) hg
    · by_cases q3 : r.f0 = 3
      · have hs : swapR r = ⟨2, r.f1⟩ := by unfold swapR; rw [if_neg q2, if_pos q3]
        rw [hs] at hg
        exact Ev.step (fun k => by rw [selvageref10_Reverse.l0, if_pos (by omega), if_pos (by omega), hrd, if_neg q2, if_pos q3, if_pos (by omega), w1]) hg
      · have hs : swapR r = r := by unfold swapR; rw [if_neg q2, if_neg q3]
        rw [hs] at hg
        exact Ev.step (fun k => by rw [selvageref10_Reverse.l0, if_pos (by omega), if_pos (by omega), hrd, if_neg q2, if_neg q3, if_pos (by omega), w1]) hg
theorem rev_at (h : Hunk) (hR : h.f5.length ≤ 1000000000) : Ev (fun k => selvageref10_Reverse.f k h.f0 h.f1 h.f2 h.f3 h.f4 h.f5) (h.f2, h.f3, h.f0, h.f1, h.f4, turnL h.f5 [] [] []) :=
  rev_loop h.f5 hR h.f0 h.f1 h.f2 h.f3 h.f4 h.f5.length 0 [] (by omega) (by simp)
theorem rd_hit (l : List Hit) (i : Nat) (x : Hit) (h : l[i]? = some x) : rd_T45 l (i : Int) = x := by
  show l.getD ((i : Int)).toNat _ = x
  rw [Int.toNat_natCast, List.getD_eq_getElem?_getD, h]
  rfl
theorem plain_loop (hits : List Hit) (n : Nat) (hp : PlainH hits n) (hn : n ≤ 1000000000) (d : Nat) : ∀ i : Nat, i + d = n → Ev (fun k => selvagelaw17_plain.l0 k hits (n : Int) (i : Int)) true := by
  induction d with
  | zero =>
    intro i h
    exact Ev.step (f := fun _ => some true) (fun k => by rw [selvagelaw17_plain.l0, if_neg (by omega)]) (Ev.pure _)
  | succ d ih =>
    intro i h
    have hl := hp.len
    have w1 : wrap64 ((i : Int) + 1) = ((i + 1 : Nat) : Int) := w_add i 1 (by omega)
    obtain ⟨x, hx⟩ : ∃ x, hits[i]? = some x := ⟨_, List.getElem?_eq_getElem (by omega)⟩
    obtain ⟨p0, p2, p3⟩ := hp.at' i x hx
    have hrd := rd_hit hits i x hx
    exact Ev.step (fun k => by rw [selvagelaw17_plain.l0, if_pos (by omega), if_pos (by omega), if_pos (by omega), hrd, if_pos p0, if_pos p2, if_pos p3, w1]) (ih (i + 1) (by omega))
theorem plain_at (hits : List Hit) (n : Nat) (hp : PlainH hits n) (hn : n ≤ 1000000000) : Ev (fun k => selvagelaw17_plain.f k hits (n : Int)) true := by
  have hl := hp.len
  exact Ev.same (fun k => by unfold selvagelaw17_plain.f; rw [if_pos (by omega)]; rfl) (plain_loop hits n hp hn n 0 (by omega))
theorem rd_hunk (l : List Hunk) (i : Nat) : rd_T41 l ((i : Nat) : Int) = l.getD i z41 := by show l.getD ((i : Int)).toNat _ = _; simp
theorem back_loop (l : List Hunk) (S : List Chg) (A B : List ByteArray) (c f : Int) (t : Two A B) (hl : HL A B l 0 0) (hc : l.length ≤ 1048576) (hr : ∀ h ∈ l, h.f5.length ≤ 1000000000) (hf : 0 ≤ f ∧ f ≤ 3) (d : Nat) : ∀ (i : Nat) (x : List Hunk), i + d = l.length → x = (l.take i).map turnH →
    Ev (fun k => selvagelaw17_ApplyBuilt.l0 k l x (i : Int) S A B c f) true := by
  induction d with
  | zero =>
    intro i x h hx
    rw [List.take_of_length_le (by omega)] at hx
    have hlen := t.len
    obtain ⟨hits, p1, p2⟩ := apply_hl t.turn (l.map turnH) (HL.turn l 0 0 hl) (by rw [List.length_map]; exact hc) f hf
    rw [← hx] at p2
    rw [List.length_map] at p1
    refine Ev.step (fun k => by rw [selvagelaw17_ApplyBuilt.l0, if_neg (by omega)]) ?_
    exact Ev.bind p2 (Ev.same (fun k => if_pos rfl) (Ev.bind (same_at A (by omega)) (Ev.same (fun k => if_pos rfl) (Ev.same (fun k => if_pos rfl) (Ev.bind (plain_at hits l.length p1 (by omega)) (Ev.same (fun k => if_pos rfl) ev_sure2))))))
  | succ d ih =>
    intro i x h hx
    have hi : i < l.length := by omega
    have w1 : wrap64 ((i : Int) + 1) = ((i + 1 : Nat) : Int) := w_add i 1 (by omega)
    obtain ⟨g, hg⟩ : ∃ g, g = l.getD i z41 := ⟨_, rfl⟩
    have hrd : rd_T41 l (i : Int) = g := (rd_hunk l i).trans hg.symm
    have hgl : l[i]? = some g := by rw [hg, List.getD_eq_getElem?_getD, List.getElem?_eq_getElem hi]; rfl
    have hgm : g ∈ l := List.mem_of_getElem? hgl
    have hxl : x.length = i := by rw [hx, List.length_map, List.length_take]; omega
    have hnx : x ++ [turnH g] = (l.take (i + 1)).map turnH := by rw [hx, List.take_add_one, List.map_append, hgl]; rfl
    refine Ev.step (fun k => by rw [selvagelaw17_ApplyBuilt.l0, if_pos (by omega), if_pos (by omega), hrd]) ?_
    refine Ev.bind (rev_at g (hr g hgm)) ?_
    exact Ev.same (fun k => by rw [if_pos (by omega), w1]; rfl) (ih (i + 1) (x ++ [turnH g]) (by omega) hnx)
theorem built_law (S : List Chg) (A B : List ByteArray) (c f : Int) (hS : S.length ≤ 1048575) (hAB : A.length + B.length ≤ 1048576) (sa : Short A) (sb : Short B) : Ev (fun k => selvagelaw17_ApplyBuilt.f k S A B c f) true := by
  have hsure : ∀ (l : List Hunk), Ev (fun k => selvagelaw17_ApplyBuilt.j0 k l true S A B c f) true := fun l => Ev.step (fun k => by rw [selvagelaw17_ApplyBuilt.j0, if_pos rfl]) ev_sure2
  have hsA : ∀ s ∈ A, s.size ≤ 4000000000 := fun s hs => by
    have : s.size ≤ 1048576 := short_at sa s hs
    omega
  have hsB : ∀ s ∈ B, s.size ≤ 4000000000 := fun s hs => by
    have : s.size ≤ 1048576 := short_at sb s hs
    omega
  rcases build_hl S A B c (by omega) (by omega) (by omega) hsA hsB with ⟨e, he, hb⟩ | ⟨va, vb, l1, l2, hv, hc, e, res, hres, hrows, hlen, hb⟩
  · exact Ev.bind hb (Ev.same (fun k => if_neg he) (hsure []))
  · by_cases he : e = 0
    · rw [if_pos he] at hb
      refine Ev.bind hb (Ev.same (fun k => if_pos rfl) ?_)
      by_cases f1 : f < 0
      · exact Ev.same (fun k => if_pos f1) (hsure res)
      refine Ev.same (fun k => if_neg f1) ?_
      by_cases f2 : f > 3
      · exact Ev.same (fun k => if_pos f2) (hsure res)
      refine Ev.same (fun k => if_neg f2) ?_
      obtain ⟨v, hcv, hv2⟩ := common_at S A B c f (by omega) (by omega) (by omega) hv
      refine Ev.bind hcv ?_
      cases v with
      | false => exact hsure res
      | true =>
        have hl := hres (hv2 rfl)
        have t : Two A B := ⟨va, vb, by omega, sa, sb⟩
        obtain ⟨hits, p1, p2⟩ := apply_hl t res hl (by omega) f ⟨by omega, by omega⟩
        refine Ev.step (fun k => by rw [selvagelaw17_ApplyBuilt.j0, if_neg (by simp)]) (Ev.bind p2 (Ev.same (fun k => if_pos rfl) (Ev.bind (same_at B (by omega)) (Ev.same (fun k => if_pos rfl) (Ev.same (fun k => if_pos rfl) (Ev.bind (plain_at hits res.length p1 (by omega)) ?_))))))
        refine Ev.step (fun k => by rw [selvagelaw17_ApplyBuilt.j1, if_neg (by simp)]) ?_
        have hok := hl_ok t res 0 0 hl
        exact back_loop res S A B c f t hl (by omega) (fun h hh => by have := (hok h hh).1.rows; omega) ⟨by omega, by omega⟩ res.length 0 [] (by omega) (by simp)
    · rw [if_neg he] at hb
      exact Ev.bind hb (Ev.same (fun k => if_neg he) (hsure []))
theorem ApplyBuilt : ∀ (a0 : S25), Ext.ok25 a0 → Ext.wt25 a0 ≤ 1048576 → ∃ k, selvagelaw17_ApplyBuilt.f k a0.f0 a0.f1 a0.f2 a0.f3 a0.f4 = some true := by
  intro a0 _ hb
  unfold Ext.wt25 at hb
  have s0 : a0.f0.length ≤ (a0.f0.map Ext.wt57).sum := by
    have := len_sum Ext.wt57 1 (fun x => by unfold Ext.wt57; omega) a0.f0
    omega
  have s1 := len_sum (fun z : ByteArray => z.size + 1) 1 (fun x => by omega) a0.f1
  have s2 := len_sum (fun z : ByteArray => z.size + 1) 1 (fun x => by omega) a0.f2
  have t1 : Short a0.f1 := fun s hs => by
    have := mem_sum (fun z : ByteArray => z.size + 1) a0.f1 s hs
    omega
  have t2 : Short a0.f2 := fun s hs => by
    have := mem_sum (fun z : ByteArray => z.size + 1) a0.f2 s hs
    omega
  exact Ev.rounds (built_law a0.f0 a0.f1 a0.f2 a0.f3 a0.f4 (by omega) (by omega) t1 t2)
end Go.Proofs.Ytkoagpnoaibdjaa.Pure
namespace Go.Proofs.Ytkoagpnoaibdjaa.Pure
open Go.RowKit Go.Proofs.Ytkoagpnoaibdjaa.Pp Go.Proofs.Ytkoagpnoaibdjaa.Ext Go.Proofs.YtkoagpnoaibdjaaW.PrintWords Go.Proofs.YtkoagpnoaibdjaaW.PrintLast Go.Proofs.YtkoagpnoaibdjaaW.PrintMore
set_option linter.unusedVariables false
set_option linter.unusedSimpArgs false
theorem of_wf {x : Int} (h : (Lit.int IntKind.i64 x).wf = true) : -9223372036854775808 ≤ x ∧ x ≤ 9223372036854775807 := by
  simp only [Lit.wf, Bool.and_eq_true, decide_eq_true_eq] at h
  exact ⟨h.1, h.2⟩
theorem wt_row (r : Row) : Ext.wt72 r = r.f1.size + 3 := by unfold Ext.wt72; omega
theorem wt_hunk (h : Hunk) : Ext.wt41 h = h.f4.size + (h.f5.map Ext.wt72).sum + 7 := by unfold Ext.wt41; omega
theorem rowsSum_le : ∀ l : List Hunk, rowsSum l ≤ (l.map Ext.wt41).sum
  | [] => by simp [rowsSum]
  | h :: t => by
    have h1 := rowsSum_le t
    have h2 := len_sum Ext.wt72 3 (fun r => by rw [wt_row]; omega) h.f5
    rw [rowsSum_cons, List.map_cons, List.sum_cons, wt_hunk]; omega
theorem small_of {h : Hunk} (hok : Ext.ok41 h) (hb : Ext.wt41 h ≤ 1048576) : Small h := by
  rw [wt_hunk] at hb
  have h2 := len_sum Ext.wt72 3 (fun r => by rw [wt_row]; omega) h.f5
  refine ⟨by omega, fun r hr => ?_, by omega, of_wf hok.1, of_wf hok.2.2.1⟩
  have := mem_sum Ext.wt72 h.f5 r hr
  rw [wt_row] at this; omega
theorem in_of (old : List ByteArray) (l : List Hunk) (hok : ∀ z ∈ l, Ext.ok41 z) (hb : ((old.map (·.size)).sum + old.length + 1) + ((l.map Ext.wt41).sum + 1) ≤ 1048576) : In old l := by
  have h1 := len_sum Ext.wt41 7 (fun h => by rw [wt_hunk]; omega) l
  have h2 := rowsSum_le l
  refine ⟨by omega, fun s hs => ?_, fun h hm => small_of (hok h hm) ?_, by omega, by omega⟩
  · have := mem_sum (fun s : ByteArray => s.size) old s hs; omega
  · have := mem_sum Ext.wt41 l h hm; omega
theorem rev_eq : ∀ (l out x n : List Row), revL l out x n = turnL l out x n
  | [], out, x, n => rfl
  | r :: t, out, x, n => by rw [revL, turnL, rev_eq t, rev_eq t, rev_eq t]
theorem turn_len : ∀ (l out x n : List Row), (turnL l out x n).length = out.length + x.length + n.length + l.length
  | [], out, x, n => by rw [turnL, List.length_append, List.length_append]; rfl
  | r :: t, out, x, n => by
    rw [turnL]
    split
    · rw [turn_len t, List.length_append]; simp only [List.length_cons, List.length_nil]; omega
    · split
      · rw [turn_len t, List.length_append]; simp only [List.length_cons, List.length_nil]; omega
      · rw [turn_len t, List.length_append, List.length_append, List.length_append]; simp only [List.length_cons, List.length_nil]; omega
theorem turn_texts (P : ByteArray → Prop) : ∀ (l out x n : List Row), (∀ r ∈ l, P r.f1) → (∀ r ∈ out ++ x ++ n, P r.f1) → ∀ r ∈ turnL l out x n, P r.f1
  | [], out, x, n, h, ho, r, hr => ho r hr
  | y :: t, out, x, n, h, ho, r, hr => by
    have ht : ∀ z ∈ t, P z.f1 := fun z hz => h z (List.mem_cons_of_mem _ hz)
    have hy : P y.f1 := h y List.mem_cons_self
    rw [turnL] at hr
    split at hr
    · refine turn_texts P t _ _ _ ht (fun z hz => ?_) r hr
      rw [← List.append_assoc] at hz
      rcases List.mem_append.mp hz with hz | hz
      · exact ho z hz
      · rw [List.mem_singleton.mp hz]; exact hy
    · split at hr
      · refine turn_texts P t _ _ _ ht (fun z hz => ?_) r hr
        rcases List.mem_append.mp hz with hz | hz
        · rcases List.mem_append.mp hz with hz | hz
          · exact ho z (List.mem_append_left _ (List.mem_append_left _ hz))
          · rcases List.mem_append.mp hz with hz | hz
            · exact ho z (List.mem_append_left _ (List.mem_append_right _ hz))
            · rw [List.mem_singleton.mp hz]; exact hy
        · exact ho z (List.mem_append_right _ hz)
      · refine turn_texts P t _ _ _ ht (fun z hz => ?_) r hr
        rw [List.append_nil, List.append_nil] at hz
        rcases List.mem_append.mp hz with hz | hz
        · exact ho z hz
        · rw [List.mem_singleton.mp hz]; exact hy
theorem turn_small {h : Hunk} (hs : Small h) : Small (turnH h) := by
  have hl : (turnH h).f5.length = h.f5.length := by
    show (turnL h.f5 [] [] []).length = _
    rw [turn_len]; simp
  exact ⟨by rw [hl]; exact hs.rows, turn_texts (fun s => s.size ≤ 1048576) h.f5 [] [] [] hs.texts (fun r hr => by cases hr), hs.head, hs.b, hs.a⟩
theorem turn_sum : ∀ (l : List Hunk), rowsSum (l.map turnH) = rowsSum l
  | [] => rfl
  | h :: t => by
    rw [List.map_cons, rowsSum_cons, rowsSum_cons, turn_sum t]
    show (turnL h.f5 [] [] []).length + _ = _
    rw [turn_len]; simp
theorem in_turn {old : List ByteArray} {l : List Hunk} (hi : In old l) : In old (l.map turnH) := by
  refine ⟨hi.len, hi.texts, fun h hh => ?_, by rw [List.length_map]; exact hi.count, by rw [turn_sum]; exact hi.rows⟩
  obtain ⟨g, hg, rfl⟩ := List.mem_map.mp hh
  exact turn_small (hi.hunks g hg)
theorem off_none : ∀ (hits : List Hit) (i : Nat), (∀ x ∈ hits, x.f2 = 0) → findOff hits i = -1
  | [], i, h => rfl
  | x :: t, i, h => by rw [findOff, if_pos (h x List.mem_cons_self)]; exact off_none t (i + 1) fun y hy => h y (List.mem_cons_of_mem _ hy)
def alreadyB (e : Option Int) (rej : List Int) (o : Int) : Bool := e.isNone && (rej.length == 0) && !decide (0 ≤ o)
theorem off_loop (x1 : List Hunk) (hits : List Hit) (rej : List Int) (e : Option Int) (he : e ≠ some 0) (hh : hits.length ≤ 1048576) (d : Nat) : ∀ i : Nat, i + d = hits.length → Ev (fun k => selvageref17_Already.l1 k x1 (hits.map conv) rej (numE e) (i : Int)) (alreadyB e rej (findOff (hits.drop i) i) && decide ((x1.length : Int) > 0)) := by
  have hml : (hits.map conv).length = hits.length := List.length_map _
  induction d with
  | zero =>
    intro i h
    rw [List.drop_of_length_le (by omega)]
    have ho : decide (0 ≤ findOff [] i) = false := rfl
    refine Ev.step (fun k => by rw [selvageref17_Already.l1, if_neg (by omega)]) ?_
    unfold alreadyB
    rw [ho]
    cases e with
    | none =>
      refine Ev.same (fun k => if_pos rfl) ?_
      cases rej with
      | nil => exact Ev.same (fun k => if_pos rfl) (Ev.pure _)
      | cons a t => exact Ev.same (fun k => if_neg (by simp only [List.length_cons]; omega)) (Ev.pure _)
    | some c =>
      have hc : ¬ numE (some c) = 0 := fun hc => he (by rw [← hc]; rfl)
      exact Ev.same (fun k => if_neg hc) (Ev.pure _)
  | succ d ih =>
    intro i h
    have hi : i < hits.length := by omega
    have hx : hits.drop i = hits[i] :: hits.drop (i + 1) := List.drop_eq_getElem_cons hi
    have c1 : (i : Int) < ((hits.map conv).length : Int) := by omega
    have c0 : (0 : Int) ≤ (i : Int) := by omega
    have hrd : rd_T79 (hits.map conv) (i : Int) = conv hits[i] := by
      show (hits.map conv).getD ((i : Int)).toNat _ = _
      rw [Int.toNat_natCast, List.getD_eq_getElem?_getD, List.getElem?_map, List.getElem?_eq_getElem hi]
      rfl
    have w1 : wrap64 ((i : Int) + 1) = ((i + 1 : Nat) : Int) := w_add i 1 (by omega)
    rw [hx, findOff]
    by_cases h2 : hits[i].f2 = 0
    · rw [if_pos h2]
      have h3 : (conv hits[i]).f2 = 0 := h2
      exact Ev.step (fun k => by rw [selvageref17_Already.l1, if_pos c1, if_pos c0, hrd, if_pos h3, w1]) (ih (i + 1) (by omega))
    · rw [if_neg h2]
      have h3 : ¬ (conv hits[i]).f2 = 0 := h2
      have ho : alreadyB e rej (i : Int) = false := by unfold alreadyB; rw [decide_eq_true c0]; simp
      rw [ho]
      exact Ev.step (f := fun _ => some false) (fun k => by rw [selvageref17_Already.l1, if_pos c1, if_pos c0, hrd, if_neg h3]) (Ev.pure _)
theorem p_turn (h : Hunk) (hR : h.f5.length ≤ 4000000000) : hunks_Reverse.f h.f0 h.f1 h.f2 h.f3 h.f4 h.f5 = some (h.f2, h.f3, h.f0, h.f1, h.f4, turnL h.f5 [] [] []) := by
  unfold hunks_Reverse.f
  rw [if_pos hR, rev_eq]
theorem prog_loop (old : List ByteArray) (l : List Hunk) (hc : l.length ≤ 1048576) (hr : ∀ h ∈ l, h.f5.length ≤ 1000000000) {v : Bool} (hv : Ev (fun k => apply_Already.e k old (l.map turnH)) v) (d : Nat) : ∀ (i : Nat) (x : List Hunk), i + d = l.length → x = (l.take i).map turnH →
    Ev (fun k => apply_Already.l0 k old l x (i : Int)) v := by
  induction d with
  | zero =>
    intro i x h hx
    rw [List.take_of_length_le (by omega)] at hx
    rw [hx]
    exact Ev.step (fun k => by rw [apply_Already.l0, if_neg (by omega)]) hv
  | succ d ih =>
    intro i x h hx
    have hi : i < l.length := by omega
    obtain ⟨g, hg⟩ : ∃ g, g = l.getD i z41 := ⟨_, rfl⟩
    have hrd : rd_T41 l (i : Int) = g := (rd_hunk l i).trans hg.symm
    have hgl : l[i]? = some g := by rw [hg, List.getD_eq_getElem?_getD, List.getElem?_eq_getElem hi]; rfl
    have hgm : g ∈ l := List.mem_of_getElem? hgl
    have hxl : x.length = i := by rw [hx, List.length_map, List.length_take]; omega
    have hnx : x ++ [turnH g] = (l.take (i + 1)).map turnH := by rw [hx, List.take_add_one, List.map_append, hgl]; rfl
    have hp := p_turn g (by have := hr g hgm; omega)
    have w1 : wrap64 ((i : Int) + 1) = ((i + 1 : Nat) : Int) := w_add i 1 (by omega)
    have hlt : x.length < 1954687338268 := by omega
    have c1 : (i : Int) < (l.length : Int) := by omega
    have c0 : (0 : Int) ≤ (i : Int) := by omega
    exact Ev.step (fun k => by rw [apply_Already.l0, if_pos c1, if_pos c0, hrd, hp, Option.bind_some, if_pos hlt, w1]; rfl) (ih (i + 1) (x ++ [turnH g]) (by omega) hnx)
theorem ref_loop (old : List ByteArray) (l : List Hunk) (hc : l.length ≤ 1048576) (hr : ∀ h ∈ l, h.f5.length ≤ 1000000000) {z : List ByteArray × List HitR × List Int × Int} (hz : Ev (fun k => selvageref17_Apply.f k old (l.map turnH) 0) z) {v : Bool} (hv : Ev (fun k => selvageref17_Already.l1 k l z.2.1 z.2.2.1 z.2.2.2 0) v) (d : Nat) : ∀ (i : Nat) (x : List Hunk), i + d = l.length → x = (l.take i).map turnH →
    Ev (fun k => selvageref17_Already.l0 k old l x (i : Int)) v := by
  induction d with
  | zero =>
    intro i x h hx
    rw [List.take_of_length_le (by omega)] at hx
    rw [hx]
    refine Ev.step (fun k => by rw [selvageref17_Already.l0, if_neg (by omega)]) ?_
    exact Ev.bind hz hv
  | succ d ih =>
    intro i x h hx
    have hi : i < l.length := by omega
    obtain ⟨g, hg⟩ : ∃ g, g = l.getD i z41 := ⟨_, rfl⟩
    have hrd : rd_T41 l (i : Int) = g := (rd_hunk l i).trans hg.symm
    have hgl : l[i]? = some g := by rw [hg, List.getD_eq_getElem?_getD, List.getElem?_eq_getElem hi]; rfl
    have hgm : g ∈ l := List.mem_of_getElem? hgl
    have hxl : x.length = i := by rw [hx, List.length_map, List.length_take]; omega
    have hnx : x ++ [turnH g] = (l.take (i + 1)).map turnH := by rw [hx, List.take_add_one, List.map_append, hgl]; rfl
    have hrv := rev_at g (hr g hgm)
    have w1 : wrap64 ((i : Int) + 1) = ((i + 1 : Nat) : Int) := w_add i 1 (by omega)
    have hlt : x.length < 1954687338268 := by omega
    have c1 : (i : Int) < (l.length : Int) := by omega
    have c0 : (0 : Int) ≤ (i : Int) := by omega
    refine Ev.step (fun k => by rw [selvageref17_Already.l0, if_pos c1, if_pos c0, hrd]) ?_
    refine Ev.bind hrv ?_
    exact Ev.same (fun k => by rw [if_pos hlt, w1]; rfl) (ih (i + 1) (x ++ [turnH g]) (by omega) hnx)
theorem e_at (old : List ByteArray) (l : List Hunk) {out : List ByteArray} {hits : List Hit} {rej : List Int} {e : Option Int} (h1 : Ev (fun k => apply_Apply.f k old l 0) (out, hits, rej, e)) (hh : hits.length ≤ 1048576) : Ev (fun k => apply_Already.e k old l) (alreadyB e rej (findOff hits 0)) := by
  have hlim : hits.length ≤ 9223372036854775807 := Nat.le_trans hh (by decide)
  unfold apply_Already.e
  refine Ev.bind h1 ?_
  exact Ev.same (fun k => if_pos hlim) (Ev.pure _)
theorem already_ev (old : List ByteArray) (l : List Hunk) (hi : In old l) : ∃ v, Ev (fun k => apply_Already.f k old l) v ∧ Ev (fun k => selvageref17_Already.f k old l) v := by
  obtain ⟨out, hits, rej, e, h1, h2, b1, b2, b3, b4⟩ := apply_ev3 old (l.map turnH) 0 (in_turn hi)
  have hc := hi.count
  have hr : ∀ h ∈ l, h.f5.length ≤ 1000000000 := fun h hh => by have := (hi.hunks h hh).rows; omega
  have hoff := off_loop l hits rej e b4 b2 hits.length 0 (by omega)
  rw [List.drop_zero] at hoff
  have href := ref_loop old l hc hr h2 hoff l.length 0 [] (by omega) (by simp)
  have hprog := prog_loop old l hc hr (e_at old _ h1 b2) l.length 0 [] (by omega) (by simp)
  by_cases h0 : (l.length : Int) = 0
  · rw [show decide ((l.length : Int) > 0) = false from decide_eq_false (by omega), Bool.and_false] at href
    exact ⟨false, Ev.same (fun k => if_pos h0) (Ev.pure _), href⟩
  · rw [show decide ((l.length : Int) > 0) = true from decide_eq_true (by omega), Bool.and_true] at href
    exact ⟨_, Ev.same (fun k => if_neg h0) hprog, href⟩
theorem already_law (old : List ByteArray) (l : List Hunk) (S : List Chg) (A B : List ByteArray) (c f : Int) (hi : In old l) (hS : S.length ≤ 1048575) (hAB : A.length + B.length ≤ 1048576) (sa : Short A) (sb : Short B) : Ev (fun k => selvagelaw17_ApplyAlready.f k old l S A B c f) true := by
  have hnil : Ev (fun k => apply_Already.f k B []) false := Ev.same (fun k => if_pos rfl) (Ev.pure _)
  have hsure : ∀ (r : List Hunk), Ev (fun k => selvagelaw17_ApplyAlready.j0 k r true S A B c f) true := fun r => by
    refine Ev.step (fun k => by rw [selvagelaw17_ApplyAlready.j0, if_pos rfl]) ?_
    exact Ev.bind hnil (Ev.same (fun k => if_neg (by simp)) ev_sure2)
  have hsA : ∀ s ∈ A, s.size ≤ 4000000000 := fun s hs => by
    have : s.size ≤ 1048576 := short_at sa s hs
    omega
  have hsB : ∀ s ∈ B, s.size ≤ 4000000000 := fun s hs => by
    have : s.size ≤ 1048576 := short_at sb s hs
    omega
  obtain ⟨v, p1, p2⟩ := already_ev old l hi
  unfold selvagelaw17_ApplyAlready.f
  refine Ev.bind p1 (Ev.bind p2 (Ev.same (fun k => if_neg (by simp)) ?_))
  rcases build_hl S A B c (by omega) (by omega) (by omega) hsA hsB with ⟨e, he, hb⟩ | ⟨va, vb, l1, l2, hv, hc, e, res, hres, hrows, hlen, hb⟩
  · exact Ev.bind hb (Ev.same (fun k => if_neg he) (hsure []))
  · by_cases he : e = 0
    · rw [if_pos he] at hb
      refine Ev.bind hb (Ev.same (fun k => if_pos rfl) ?_)
      obtain ⟨v, hcv, hv2⟩ := common_at S A B c f (by omega) (by omega) (by omega) hv
      refine Ev.bind hcv ?_
      cases v with
      | false => exact hsure res
      | true =>
        refine Ev.same (fun k => if_pos rfl) ?_
        have hl := hres (hv2 rfl)
        have t : Two A B := ⟨va, vb, by omega, sa, sb⟩
        show Ev (fun k => selvagelaw17_ApplyAlready.j0 k res ((res.length : Int) == 0) S A B c f) true
        cases hz : ((res.length : Int) == 0) with
        | true => exact hsure res
        | false =>
          have h0 : ¬ (res.length : Int) = 0 := beq_eq_false_iff_ne.mp hz
          have hok := hl_ok t res 0 0 hl
          have hR : ∀ h ∈ res, h.f5.length ≤ 1000000000 := fun h hh => by have := (hok h hh).1.rows; omega
          obtain ⟨hits, q1, q2⟩ := apply_hl t.turn (res.map turnH) (HL.turn res 0 0 hl) (by rw [List.length_map]; omega) 0 ⟨by omega, by omega⟩
          have q3 := q1.len
          rw [List.length_map] at q3
          have ho : findOff hits 0 = -1 := off_none hits 0 fun x hx => by
            obtain ⟨j, hj⟩ := List.getElem?_of_mem hx
            exact (q1.at' j x hj).2.1
          have hE := e_at B _ q2 (by omega)
          rw [ho] at hE
          have hprog := prog_loop B res (by omega) hR hE res.length 0 [] (by omega) (by simp)
          refine Ev.step (fun k => by rw [selvagelaw17_ApplyAlready.j0, if_neg (by simp)]) ?_
          refine Ev.bind (Ev.same (fun k => if_neg h0) hprog) ?_
          refine Ev.same (fun k => if_pos rfl) ?_
          exact Ev.bind hnil (Ev.same (fun k => if_neg (by simp)) ev_sure2)
    · rw [if_neg he] at hb
      exact Ev.bind hb (Ev.same (fun k => if_neg he) (hsure []))
theorem ApplyAlready : ∀ (a0 : List ByteArray) (a1 : List Hunk) (a2 : S25), (∀ z ∈ a1, Ext.ok41 z) → Ext.ok25 a2 → ((a0.map (·.size)).sum + a0.length + 1) + ((a1.map Ext.wt41).sum + 1) + Ext.wt25 a2 ≤ 1048576 → ∃ k, selvagelaw17_ApplyAlready.f k a0 a1 a2.f0 a2.f1 a2.f2 a2.f3 a2.f4 = some true := by
  intro l0 l1 a0 hok _ hb
  unfold Ext.wt25 at hb
  have s0 : a0.f0.length ≤ (a0.f0.map Ext.wt57).sum := by
    have := len_sum Ext.wt57 1 (fun x => by unfold Ext.wt57; omega) a0.f0
    omega
  have s1 := len_sum (fun z : ByteArray => z.size + 1) 1 (fun x => by omega) a0.f1
  have s2 := len_sum (fun z : ByteArray => z.size + 1) 1 (fun x => by omega) a0.f2
  have t1 : Short a0.f1 := fun s hs => by
    have := mem_sum (fun z : ByteArray => z.size + 1) a0.f1 s hs
    omega
  have t2 : Short a0.f2 := fun s hs => by
    have := mem_sum (fun z : ByteArray => z.size + 1) a0.f2 s hs
    omega
  exact Ev.rounds (already_law l0 l1 a0.f0 a0.f1 a0.f2 a0.f3 a0.f4 (in_of l0 l1 hok (by omega)) (by omega) (by omega) t1 t2)
end Go.Proofs.Ytkoagpnoaibdjaa.Pure
