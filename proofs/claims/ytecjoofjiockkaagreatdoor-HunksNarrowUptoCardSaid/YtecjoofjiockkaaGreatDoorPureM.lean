/-
  Lines, in plain Lean: what both sides take for a line, for a list of lines.
-/
import Derived.Test.YtecjoofjiockkaaGreatDoorEPure
import Derived.Test.YtecjoofjiockkaaGreatDoorPp11
import Derived.Test.YtecjoofjiockkaaGreatDoorPp3
import Derived.Test.YtecjoofjiockkaaGreatDoorPp20
import Derived.Test.YtecjoofjiockkaaGreatDoorPp4
import Derived.Lib.IndexLaws
import Derived.Test.YtecjoofjiockkaaGreatDoorEValid
import Derived.Test.YtecjoofjiockkaaGreatDoorESides
import Derived.Test.YtecjoofjiockkaaGreatDoorPp6
import Derived.Test.YtecjoofjiockkaaGreatDoorENarrow
import Derived.Test.YtecjoofjiockkaaGreatDoorEKind
import Derived.Test.YtecjoofjiockkaaGreatDoorPp7
import Derived.Test.YtecjoofjiockkaaGreatDoorPp18
import Derived.Test.YtecjoofjiockkaaGreatDoorPp8
import Derived.Test.YtecjoofjiockkaaGreatDoorPp9
import Derived.Test.YtecjoofjiockkaaGreatDoorPp27
import Derived.Test.YtecjoofjiockkaaGreatDoorPp28
namespace Go.Proofs.YtecjoofjiockkaaGreatDoor.Pure
open Go.RowKit Go.Proofs.YtecjoofjiockkaaGreatDoor.Pp Go.Proofs.YtecjoofjiockkaaGreatDoor.Ext Go.Proofs.YtecjoofjiockkaaGreatDoorW.PrintWords Go.Proofs.YtecjoofjiockkaaGreatDoorW.PrintLast Go.Proofs.YtecjoofjiockkaaGreatDoorW.PrintMore
set_option linter.unusedVariables false
set_option linter.unusedSimpArgs false
theorem Ev.pure {α : Type} (v : α) : Ev (fun _ => some v) v := ⟨0, fun _ _ => rfl⟩
theorem Ev.same {α : Type} {F G : Nat → Option α} {v : α} (h : ∀ k, F k = G k) (hg : Ev G v) : Ev F v := Ev.congr h hg
theorem data_len (s : ByteArray) : s.data.toList.length = s.size := by rw [Array.length_toList]; rfl
theorem w_of (n : Nat) (m : Int) (h : m = (n : Int)) (hn : n ≤ 9223372036854775807) : wrap64 m = (n : Int) := by rw [h]; exact w64' (by omega) (by omega)
theorem bt_at (s : ByteArray) (j : Nat) (h : j < s.size) : (bt s (j : Int) = 10) ↔ s.data.toList[j]? = some 10 := by
  have hl : j < s.data.toList.length := by rw [data_len]; exact h
  rw [bt_list, List.getD_eq_getElem?_getD, List.getElem?_eq_getElem hl, Option.getD_some]
  constructor
  · intro e; congr 1; exact UInt8.toNat_inj.mp (by have : (10 : UInt8).toNat = 10 := rfl; omega)
  · intro e; injection e with e; rw [e]; rfl
theorem ix (s : ByteArray) : (Lib.indexByte s.data.toList 10 = -1 ∧ ∀ j : Nat, j < s.size → bt s (j : Int) ≠ 10) ∨
    (∃ o : Nat, o < s.size ∧ Lib.indexByte s.data.toList 10 = (o : Int) ∧ bt s (o : Int) = 10 ∧ ∀ j : Nat, j < o → bt s (j : Int) ≠ 10) := by
  have hge := Lib.indexByte_ge s.data.toList 10
  rcases (by omega : Lib.indexByte s.data.toList 10 = -1 ∨ 0 ≤ Lib.indexByte s.data.toList 10) with h | h
  · exact .inl ⟨h, fun j hj e => Lib.indexByte_none h j ((bt_at s j hj).mp e)⟩
  · obtain ⟨o, ho⟩ : ∃ o : Nat, Lib.indexByte s.data.toList 10 = o := ⟨_, (Int.toNat_of_nonneg h).symm⟩
    obtain ⟨h1, h2⟩ := Lib.indexByte_some ho
    have hlt : o < s.size := by
      rw [← data_len]
      exact (List.getElem?_eq_some_iff.mp h1).1
    exact .inr ⟨o, hlt, ho, (bt_at s o hlt).mpr h1, fun j hj e => h2 j hj ((bt_at s j (by omega)).mp e)⟩
def whole (s : ByteArray) : Bool := decide (0 < s.size ∧ bt s ((s.size : Int) - 1) = 10)
def body (s : ByteArray) : Bool := decide (∀ j, j < s.size - 1 → bt s ((j : Nat) : Int) ≠ 10)
def line (s : ByteArray) : Bool := decide (0 < s.size) && body s
theorem nil_size (s : ByteArray) : s.toList = ([] : List UInt8) ↔ ¬ 0 < s.size := by rw [toList_nil]; omega
theorem drop_by {α : Type} (l : List α) (d : α) (i : Nat) (h : i < l.length) : l.drop i = l.getD i d :: l.drop (i + 1) := by
  rw [List.getD_eq_getElem?_getD, List.getElem?_eq_getElem h]
  exact List.drop_eq_getElem_cons h
theorem last_byte (s : ByteArray) (n : Nat) (hn : s.size = n + 1) : ∃ b : UInt8, s.data.toList = s.data.toList.take n ++ [b] ∧ bt s (n : Int) = (b.toNat : Int) := by
  have hl : n < s.data.toList.length := by rw [data_len]; omega
  refine ⟨s.data.toList[n], ?_, ?_⟩
  · have h1 := List.take_append_drop n s.data.toList
    rw [List.drop_eq_getElem_cons hl, List.drop_of_length_le (by rw [data_len]; omega)] at h1
    exact h1.symm
  · rw [bt_list, List.getD_eq_getElem?_getD, List.getElem?_eq_getElem hl]; rfl
theorem suffix_at (s : ByteArray) (hs : s.size ≤ 4000000000) : stringslite_HasSuffix.f s (⟨#[10]⟩ : ByteArray) = some (whole s) := by
  unfold stringslite_HasSuffix.f
  have h1 : (⟨#[10]⟩ : ByteArray).size = 1 := rfl
  rw [h1]
  by_cases h : 0 < s.size
  · obtain ⟨n, hn⟩ : ∃ n, s.size = n + 1 := ⟨s.size - 1, by omega⟩
    have w : wrap64 ((s.size : Int) - ((1 : Nat) : Int)) = (n : Int) := by rw [w64' (by omega) (by omega)]; omega
    obtain ⟨b, hb, hv⟩ := last_byte s n hn
    have hsuf : (s.extract n s.size).toList = [b] := by
      rw [Lib.toList_data, Lib.extract_data, hb, List.drop_left' (by rw [List.length_take, data_len]; omega), hn, show n + 1 - n = 1 by omega]; rfl
    have h10 : (⟨#[10]⟩ : ByteArray).toList = ([10] : List UInt8) := by rw [Lib.toList_data]
    rw [if_pos (by omega), w, if_pos (by omega), if_pos (by omega), Int.toNat_natCast, hsuf, h10]
    unfold whole
    rw [show (s.size : Int) - 1 = (n : Int) by omega, hv]
    congr 1
    by_cases e : b = 10
    · rw [e, decide_eq_true ⟨h, by rfl⟩]; rfl
    · have hne : ¬ (b.toNat : Int) = 10 := fun x => e (UInt8.toNat_inj.mp (by have : (10 : UInt8).toNat = 10 := rfl; omega))
      rw [decide_eq_false (fun x => hne x.2)]
      simp [e]
  · rw [if_neg (by omega)]
    unfold whole
    rw [decide_eq_false (fun x => h x.1)]
theorem whole_at (s : ByteArray) (hs : s.size ≤ 4000000000) : lines_Whole.f s = some (whole s) := by
  unfold lines_Whole.f strings_HasSuffix.f
  rw [suffix_at s hs]; rfl
theorem r_whole_at (s : ByteArray) (hs : s.size ≤ 4000000000) : selvageref01_Whole.f s = some (whole s) := by
  unfold selvageref01_Whole.f whole
  by_cases h : 0 < s.size
  · rw [if_pos (by omega), w64' (by omega) (by omega), if_pos (by omega), if_pos (by omega)]
    congr 1
    by_cases e : bt s ((s.size : Int) - 1) = 10
    · rw [e, decide_eq_true ⟨h, rfl⟩]; rfl
    · rw [decide_eq_false (fun x => e x.2)]
      exact beq_eq_false_iff_ne.mpr e
  · rw [if_neg (by omega), decide_eq_false (fun x => h x.1)]
def bare (s : ByteArray) : ByteArray := if whole s = true then s.extract 0 (s.size - 1) else s
theorem bare_at (s : ByteArray) (hs : s.size ≤ 4000000000) : lines_Bare.f s = some (bare s) := by
  unfold lines_Bare.f strings_TrimSuffix.f stringslite_TrimSuffix.f bare
  rw [suffix_at s hs, Option.bind_some]
  have h1 : (⟨#[10]⟩ : ByteArray).size = 1 := rfl
  rw [h1]
  cases hw : whole s with
  | false => rw [if_neg (by simp), if_neg (by simp)]; rfl
  | true =>
    have h0 := (of_decide_eq_true hw).1
    rw [if_pos rfl, if_pos rfl, w64' (by omega) (by omega), if_pos (by omega), if_pos (by omega), show ((s.size : Int) - ((1 : Nat) : Int)).toNat = s.size - 1 by omega]
    rfl
theorem contains_at (s : ByteArray) : strings_Contains.f s (⟨#[10]⟩ : ByteArray) = some (decide (∃ j, j < s.size ∧ bt s ((j : Nat) : Int) = 10)) := by
  show some (decide (0 ≤ Lib.indexByte s.data.toList 10)) = _
  congr 1
  rcases ix s with ⟨hx, hn⟩ | ⟨o, ho, hx, hb, hn⟩
  · rw [hx, decide_eq_false (by omega)]
    symm
    exact decide_eq_false (fun ⟨j, h1, h2⟩ => hn j h1 h2)
  · rw [hx, decide_eq_true (by omega)]
    symm
    exact decide_eq_true ⟨o, ho, hb⟩
theorem bare_body (s : ByteArray) (h0 : 0 < s.size) : (!decide (∃ j, j < (bare s).size ∧ bt (bare s) ((j : Nat) : Int) = 10)) = body s := by
  unfold bare body
  cases hw : whole s with
  | true =>
    rw [if_pos rfl]
    have hz : (s.extract 0 (s.size - 1)).size = s.size - 1 := by rw [ByteArray.size_extract]; omega
    rw [← decide_not]
    congr 1
    apply propext
    constructor
    · intro h j hj e
      exact h ⟨j, by rw [hz]; exact hj, by rw [bt_extract s 0 (s.size - 1) j (by omega), Nat.zero_add]; exact e⟩
    · rintro h ⟨j, hj, e⟩
      rw [hz] at hj
      rw [bt_extract s 0 (s.size - 1) j (by omega), Nat.zero_add] at e
      exact h j hj e
  | false =>
    rw [if_neg (by simp), ← decide_not]
    have hlast : bt s ((s.size : Int) - 1) ≠ 10 := fun e => (of_decide_eq_false hw) ⟨h0, e⟩
    congr 1
    apply propext
    constructor
    · intro h j hj e
      exact h ⟨j, by omega, e⟩
    · rintro h ⟨j, hj, e⟩
      by_cases hj2 : j < s.size - 1
      · exact h j hj2 e
      · exact hlast (by rw [show (s.size : Int) - 1 = (j : Int) by omega]; exact e)
theorem line_at (s : ByteArray) (hs : s.size ≤ 4000000000) : hunks_line.f s = some (line s) := by
  unfold hunks_line.f line
  by_cases h0 : 0 < s.size
  · rw [if_neg (by rw [nil_size]; omega), bare_at s hs, Option.bind_some, contains_at, Option.bind_some, bare_body s h0, decide_eq_true h0]; rfl
  · rw [if_pos (by rw [nil_size]; exact h0), decide_eq_false h0]; rfl
theorem r_line_at (s : ByteArray) (hs : s.size ≤ 4000000000) (d : Nat) : ∀ j : Nat, (j : Int) + d = max 0 ((s.size : Int) - 1) → (∀ x : Nat, x < j → bt s (x : Int) ≠ 10) → Ev (fun k => selvageref10_line.l0 k s (j : Int)) (line s) := by
  induction d with
  | zero =>
    intro j hj hn
    refine Ev.step (f := fun _ => some (line s)) (fun k => ?_) (Ev.pure _)
    have hb : body s = true := decide_eq_true (fun x hx => hn x (by omega))
    rw [selvageref10_line.l0, w64' (by omega) (by omega), if_neg (by omega)]
    unfold line
    rw [hb, Bool.and_true]
    congr 1
    by_cases h0 : 0 < s.size
    · rw [decide_eq_true h0]; exact bne_iff_ne.mpr (by rw [Ne, nil_size]; omega)
    · rw [decide_eq_false h0]; exact bne_eq_false_iff_eq.mpr (by rw [nil_size]; exact h0)
  | succ d ih =>
    intro j hj hn
    by_cases hb : bt s (j : Int) = 10
    · refine Ev.step (f := fun _ => some (line s)) (fun k => ?_) (Ev.pure _)
      rw [selvageref10_line.l0, w64' (by omega) (by omega), if_pos (by omega), if_pos (by omega), if_pos (by omega), if_pos hb]
      have hb2 : body s = false := decide_eq_false (fun hh => hh j (by omega) hb)
      unfold line
      rw [hb2]; simp
    · refine Ev.step (fun k => ?_) (ih (j + 1) (by omega) (fun x hx => by rcases Nat.lt_or_ge x j with h' | h'; exact hn x h'; rw [show x = j by omega]; exact hb))
      rw [selvageref10_line.l0, w64' (i := (s.size : Int) - 1) (by omega) (by omega), if_pos (by omega), if_pos (by omega), if_pos (by omega), if_neg hb, w_of (j + 1) _ (by omega) (by omega)]
theorem r_line (s : ByteArray) (hs : s.size ≤ 4000000000) : Ev (fun k => selvageref10_line.f k s) (line s) :=
  r_line_at s hs (max 0 ((s.size : Int) - 1)).toNat 0 (by omega) (fun x hx => by omega)
end Go.Proofs.YtecjoofjiockkaaGreatDoor.Pure
namespace Go.Proofs.YtecjoofjiockkaaGreatDoor.Pure
open Go.RowKit Go.Proofs.YtecjoofjiockkaaGreatDoor.Pp Go.Proofs.YtecjoofjiockkaaGreatDoor.Ext Go.Proofs.YtecjoofjiockkaaGreatDoorW.PrintWords Go.Proofs.YtecjoofjiockkaaGreatDoorW.PrintLast Go.Proofs.YtecjoofjiockkaaGreatDoorW.PrintMore
set_option linter.unusedVariables false
set_option linter.unusedSimpArgs false
abbrev Row := S53
abbrev Hunk := S29
def isOld (r : Row) : Bool := r.f0 == 1 || r.f0 == 2
def isNew (r : Row) : Bool := r.f0 == 1 || r.f0 == 3
def good (r : Row) (e o : Bool) : Bool := (isOld r || isNew r) && line r.f1 && !(isOld r && e) && !(isNew r && o)
def rowsOk : List Row → Bool → Bool → Bool → Bool
  | [], _, _, ch => ch
  | r :: t, e, o, ch => if good r e o = true then rowsOk t (e || (isOld r && !whole r.f1)) (o || (isNew r && !whole r.f1)) (ch || (r.f0 != 1)) else false
def cntOld (l : List Row) : Nat := l.countP isOld
def cntNew (l : List Row) : Nat := l.countP isNew
theorem cntOld_le (l : List Row) : cntOld l ≤ l.length := List.countP_le_length
theorem cntNew_le (l : List Row) : cntNew l ≤ l.length := List.countP_le_length
theorem kinds (r : Row) : (r.f0 = 1 ∧ isOld r = true ∧ isNew r = true) ∨ (r.f0 = 2 ∧ isOld r = true ∧ isNew r = false) ∨ (r.f0 = 3 ∧ isOld r = false ∧ isNew r = true) ∨
    ((r.f0 ≠ 1 ∧ r.f0 ≠ 2 ∧ r.f0 ≠ 3) ∧ isOld r = false ∧ isNew r = false) := by
  by_cases h1 : r.f0 = 1
  · left; simp [isOld, isNew, h1]
  · by_cases h2 : r.f0 = 2
    · right; left; simp [isOld, isNew, h2]
    · by_cases h3 : r.f0 = 3
      · right; right; left; simp [isOld, isNew, h3]
      · right; right; right; simp [isOld, isNew, h1, h2, h3]
def placeOk (a n : Int) : Bool := decide (0 ≤ n ∧ 0 ≤ a ∧ (0 < a ∨ n = 0) ∧ a ≤ 2147483647 ∧ n ≤ 2147483647 - a)
def headOk (s : ByteArray) : Bool := decide (s.size ≤ 4096) && !decide (∃ j, j < s.size ∧ bt s ((j : Nat) : Int) = 10)
def hunkOk (h : Hunk) : Bool := rowsOk h.f5 false false false && decide (h.f1 = cntOld h.f5) && decide (h.f3 = cntNew h.f5) && placeOk h.f0 h.f1 && placeOk h.f2 h.f3 && headOk h.f4
theorem add_at (c : Int) (e : Bool) (s : ByteArray) (hs : s.size ≤ 4000000000) : hunks_side_add.f c e s = some (if e = true then (false, c, e) else (true, wrap64 (c + 1), !whole s)) := by
  unfold hunks_side_add.f
  cases e with
  | true => rfl
  | false => rw [if_neg (by simp), whole_at s hs, if_neg (by simp)]; rfl
theorem p_sides : ∀ (l : List Row) (c d : Nat) (e f ch : Bool), c + l.length ≤ 4000000000 → d + l.length ≤ 4000000000 → (∀ r ∈ l, r.f1.size ≤ 4000000000) →
    ∃ x, sidesF l c e d f ch = some x ∧ x.2.2 = rowsOk l e f ch ∧ (rowsOk l e f ch = true → x.1.1 = ((c + cntOld l : Nat) : Int) ∧ x.2.1.1 = ((d + cntNew l : Nat) : Int))
  | [], c, d, e, f, ch, _, _, _ => ⟨_, rfl, rfl, fun _ => ⟨rfl, rfl⟩⟩
  | r :: t, c, d, e, f, ch, hc, hd, hs => by
    have hr := hs r (List.mem_cons_self)
    have ht : ∀ r ∈ t, r.f1.size ≤ 4000000000 := fun x hx => hs x (List.mem_cons_of_mem _ hx)
    simp only [List.length_cons] at hc hd
    have wc : wrap64 ((c : Int) + 1) = ((c + 1 : Nat) : Int) := w_of (c + 1) _ (by omega) (by omega)
    have wd : wrap64 ((d : Int) + 1) = ((d + 1 : Nat) : Int) := w_of (d + 1) _ (by omega) (by omega)
    unfold sidesF rowsOk good
    rw [line_at _ hr]
    simp only [addIf, add_at _ _ _ hr, Option.bind_some]
    rcases kinds r with ⟨hk, h1, h2⟩ | ⟨hk, h1, h2⟩ | ⟨hk, h1, h2⟩ | ⟨hk, h1, h2⟩
    · rw [h1, h2, hk, if_neg (by omega), if_neg (by omega)]
      cases hl : line r.f1 with
      | false => exact ⟨_, by rw [if_neg (by simp)], by simp, by simp⟩
      | true =>
        cases e with
        | true => exact ⟨_, (by simp; rfl), by simp, by simp⟩
        | false =>
          cases f with
          | true => exact ⟨_, (by simp; rfl), by simp, by simp⟩
          | false =>
            obtain ⟨x, e1, e2, e3⟩ := p_sides t (c + 1) (d + 1) (!whole r.f1) (!whole r.f1) ch (by omega) (by omega) ht
            refine ⟨x, by simpa [wc, wd] using e1, by simpa using e2, fun h => ?_⟩
            have := e3 (by simpa using h)
            unfold cntOld cntNew at this ⊢
            simp only [List.countP_cons, h1, h2, Bool.false_eq_true, if_true, if_false, Nat.add_zero]
            exact ⟨this.1.trans (by congr 1; omega), this.2.trans (by congr 1; omega)⟩
    · rw [h1, h2, hk, if_neg (by omega), if_neg (by omega)]
      cases hl : line r.f1 with
      | false => exact ⟨_, by rw [if_neg (by simp)], by simp, by simp⟩
      | true =>
        cases e with
        | true => exact ⟨_, (by simp; rfl), by simp, by simp⟩
        | false =>
          obtain ⟨x, e1, e2, e3⟩ := p_sides t (c + 1) d (!whole r.f1) f true (by omega) (by omega) ht
          refine ⟨x, by simpa [wc] using e1, by simpa using e2, fun h => ?_⟩
          have := e3 (by simpa using h)
          unfold cntOld cntNew at this ⊢
          simp only [List.countP_cons, h1, h2, Bool.false_eq_true, if_true, if_false, Nat.add_zero]
          exact ⟨this.1.trans (by congr 1; omega), this.2⟩
    · rw [h1, h2, hk, if_neg (by omega), if_neg (by omega)]
      cases hl : line r.f1 with
      | false => exact ⟨_, by rw [if_neg (by simp)], by simp, by simp⟩
      | true =>
        cases f with
        | true => exact ⟨_, (by simp; rfl), by simp, by simp⟩
        | false =>
          obtain ⟨x, e1, e2, e3⟩ := p_sides t c (d + 1) e (!whole r.f1) true (by omega) (by omega) ht
          refine ⟨x, by simpa [wd] using e1, by simpa using e2, fun h => ?_⟩
          have := e3 (by simpa using h)
          unfold cntOld cntNew at this ⊢
          simp only [List.countP_cons, h1, h2, Bool.false_eq_true, if_true, if_false, Nat.add_zero]
          exact ⟨this.1, this.2.trans (by congr 1; omega)⟩
    · rw [h1, h2]
      by_cases c1 : r.f0 < 1
      · exact ⟨_, by rw [if_pos c1], by simp, by simp⟩
      · exact ⟨_, by rw [if_neg c1, if_pos (by omega)], by simp, by simp⟩
theorem p_place (a n : Int) (ha : -9223372036854775808 ≤ a ∧ a ≤ 9223372036854775807) : hunks_place.f a n = some (placeOk a n) := by
  unfold hunks_place.f placeOk
  by_cases h1 : n ≥ 0
  · by_cases h2 : a ≥ 0
    · rw [if_pos h1, if_pos h2]
      have hw : a ≤ 2147483647 → wrap64 (2147483647 - a) = 2147483647 - a := fun h => w64' (by omega) (by omega)
      by_cases h4 : a ≤ 2147483647
      · rw [hw h4]
        by_cases h3 : a > 0
        · rw [if_pos h3, if_pos h4]; congr 1; exact decide_eq_decide.mpr (by omega)
        · rw [if_neg h3]
          by_cases h5 : n = 0
          · rw [if_pos h5, if_pos h4]; congr 1; exact decide_eq_decide.mpr (by omega)
          · rw [if_neg h5]; congr 1; symm; exact decide_eq_false (by omega)
      · rw [if_neg h4, if_pos (by omega)]; congr 1; symm; exact decide_eq_false (by omega)
    · rw [if_pos h1, if_neg h2]; congr 1; symm; exact decide_eq_false (by omega)
  · rw [if_neg h1]; congr 1; symm; exact decide_eq_false (by omega)
structure Small (h : Hunk) : Prop where
  rows : h.f5.length ≤ 1048576
  texts : ∀ r ∈ h.f5, r.f1.size ≤ 1048576
  head : h.f4.size ≤ 1048576
  a : -9223372036854775808 ≤ h.f0 ∧ h.f0 ≤ 9223372036854775807
  b : -9223372036854775808 ≤ h.f2 ∧ h.f2 ≤ 9223372036854775807
theorem p_hunk (h : Hunk) (hs : Small h) : validF h = some (if hunkOk h = true then none else some 100) := by
  have h1 := hs.rows
  obtain ⟨x, e1, e2, e3⟩ := p_sides h.f5 0 0 false false false (by omega) (by omega) (fun r hr => by have := hs.texts r hr; omega)
  unfold validF hunks_Valid.f hunks_sides.f
  rw [if_pos (by omega)]
  rw [show (0 : Int) = ((0 : Nat) : Int) from rfl, e1, Option.map_some, Option.bind_some]
  simp only [e2]
  unfold hunkOk
  cases hr : rowsOk h.f5 false false false with
  | false => rw [if_neg (by simp)]; simp
  | true =>
    obtain ⟨e4, e5⟩ := e3 hr
    rw [Nat.zero_add] at e4 e5
    rw [if_pos rfl, e4, e5, p_place _ _ hs.a, p_place _ _ hs.b, contains_at]
    simp only [Option.bind_some, Bool.true_and]
    by_cases c1 : h.f1 = (cntOld h.f5 : Int)
    · by_cases c2 : h.f3 = (cntNew h.f5 : Int)
      · rw [if_pos c1.symm, if_pos c2.symm, decide_eq_true c1, decide_eq_true c2]
        cases placeOk h.f0 h.f1 with
        | false => simp
        | true =>
          cases placeOk h.f2 h.f3 with
          | false => simp
          | true =>
            unfold headOk
            by_cases c3 : h.f4.size ≤ 4096
            · rw [if_pos rfl, if_pos rfl, if_neg (by omega), decide_eq_true c3]
              cases decide (∃ j, j < h.f4.size ∧ bt h.f4 ((j : Nat) : Int) = 10) <;> simp
            · rw [if_pos rfl, if_pos rfl, if_pos (by omega), decide_eq_false c3]; simp
      · rw [if_pos c1.symm, if_neg (fun h => c2 h.symm), decide_eq_false c2]; simp
    · rw [if_neg (fun h => c1 h.symm), decide_eq_false c1]; simp
theorem r_old (r : Row) : selvageref10_old.f r.f0 r.f1 = some (isOld r) := by
  unfold selvageref10_old.f isOld
  by_cases h : r.f0 = 1
  · rw [if_pos h, h]; rfl
  · rw [if_neg h, show (r.f0 == 1) = false from beq_eq_false_iff_ne.mpr h, Bool.false_or]
theorem r_new (r : Row) : selvageref10_fresh.f r.f0 r.f1 = some (isNew r) := by
  unfold selvageref10_fresh.f isNew
  by_cases h : r.f0 = 1
  · rw [if_pos h, h]; rfl
  · rw [if_neg h, show (r.f0 == 1) = false from beq_eq_false_iff_ne.mpr h, Bool.false_or]
theorem rd_row (l : List Row) (i : Nat) : rd_T53 l ((i : Nat) : Int) = l.getD i z53 := by show l.getD ((i : Int)).toNat _ = _; simp
theorem r_counts_at (l : List Row) (hl : l.length ≤ 4000000000) (d : Nat) : ∀ (i a b : Nat), i + d = l.length → a ≤ i → b ≤ i → Ev (fun k => selvageref10_Counts.l0 k l a b (i : Int)) (((a + cntOld (l.drop i) : Nat) : Int), ((b + cntNew (l.drop i) : Nat) : Int)) := by
  induction d with
  | zero =>
    intro i a b h _ _
    rw [List.drop_of_length_le (by omega)]
    exact Ev.step (f := fun _ => some ((a : Int), (b : Int))) (fun k => by rw [selvageref10_Counts.l0, if_neg (by omega)]) (Ev.pure _)
  | succ d ih =>
    intro i a b h ha hb
    have hi : i < l.length := by omega
    rw [drop_by l z53 i hi]
    obtain ⟨r, hr⟩ : ∃ r, r = l.getD i z53 := ⟨_, rfl⟩
    have wi : wrap64 ((i : Int) + 1) = ((i + 1 : Nat) : Int) := w_of (i + 1) _ (by omega) (by omega)
    have wa : wrap64 ((a : Int) + 1) = ((a + 1 : Nat) : Int) := w_of (a + 1) _ (by omega) (by omega)
    have wb : wrap64 ((b : Int) + 1) = ((b + 1 : Nat) : Int) := w_of (b + 1) _ (by omega) (by omega)
    unfold cntOld cntNew
    rw [← hr, List.countP_cons, List.countP_cons]
    have hstep : ∀ k, selvageref10_Counts.l0 (k + 1) l a b (i : Int) = selvageref10_Counts.l0 k l ((a + (if isOld r = true then 1 else 0) : Nat) : Int) ((b + (if isNew r = true then 1 else 0) : Nat) : Int) ((i + 1 : Nat) : Int) := by
      intro k
      rw [selvageref10_Counts.l0, if_pos (by omega), if_pos (by omega), rd_row, ← hr, r_old, r_new, Option.bind_some, Option.bind_some, wi, wa, wb]
      cases isOld r <;> cases isNew r <;> simp
    have h2 := ih (i + 1) (a + (if isOld r = true then 1 else 0)) (b + (if isNew r = true then 1 else 0)) (by omega) (by split <;> omega) (by split <;> omega)
    unfold cntOld cntNew at h2
    rw [show a + ((l.drop (i + 1)).countP isOld + if isOld r = true then 1 else 0) = a + (if isOld r = true then 1 else 0) + (l.drop (i + 1)).countP isOld by omega,
      show b + ((l.drop (i + 1)).countP isNew + if isNew r = true then 1 else 0) = b + (if isNew r = true then 1 else 0) + (l.drop (i + 1)).countP isNew by omega]
    exact Ev.step hstep h2
theorem r_counts (l : List Row) (hl : l.length ≤ 4000000000) : Ev (fun k => selvageref10_Counts.f k l) ((cntOld l : Int), (cntNew l : Int)) := by
  have := r_counts_at l hl l.length 0 0 0 (by omega) (by omega) (by omega)
  rw [List.drop_zero, Nat.zero_add, Nat.zero_add] at this
  exact this
theorem r_part (k : Nat) (l : List Row) (e o ch : Bool) (i : Nat) (hi : (i : Int) + 1 ≤ 9223372036854775807) (r : Row) (hs : r.f1.size ≤ 4000000000) :
    selvageref10_rows.j1 (k + 1) l e o ch (i : Int) false r.f0 r.f1 = selvageref10_rows.l0 k l (e || (isOld r && !whole r.f1)) (o || (isNew r && !whole r.f1)) (ch || (r.f0 != 1)) ((i + 1 : Nat) : Int) := by
  rw [selvageref10_rows.j1, if_neg (by simp), r_whole_at _ hs, r_old, r_new, Option.bind_some, Option.bind_some, Option.bind_some, w_of (i + 1) _ (by omega) (by omega)]
  cases e <;> cases o <;> cases ch <;> cases whole r.f1 <;> cases isOld r <;> cases isNew r <;> simp
theorem r_rows_at (l : List Row) (hl : l.length ≤ 4000000000) (hs : ∀ r ∈ l, r.f1.size ≤ 4000000000) (d : Nat) : ∀ (i : Nat) (e o ch : Bool), i + d = l.length → Ev (fun k => selvageref10_rows.l0 k l e o ch (i : Int)) (rowsOk (l.drop i) e o ch) := by
  induction d with
  | zero =>
    intro i e o ch h
    rw [List.drop_of_length_le (by omega)]
    exact Ev.step (f := fun _ => some ch) (fun k => by rw [selvageref10_rows.l0, if_neg (by omega)]) (Ev.pure _)
  | succ d ih =>
    intro i e o ch h
    have hi : i < l.length := by omega
    rw [drop_by l z53 i hi]
    obtain ⟨r, hr⟩ : ∃ r, r = l.getD i z53 := ⟨_, rfl⟩
    have hm : r ∈ l := by rw [hr, List.getD_eq_getElem?_getD, List.getElem?_eq_getElem hi]; exact List.getElem_mem hi
    have hz := hs r hm
    rw [← hr, rowsOk]
    obtain ⟨K1, hK1⟩ := r_line r.f1 hz
    have hstep : ∀ k, K1 ≤ k → selvageref10_rows.l0 (k + 1) l e o ch (i : Int) = selvageref10_rows.j1 k l e o ch (i : Int) (!good r e o) r.f0 r.f1 := by
      intro k hk
      have hline : selvageref10_line.f k r.f1 = some (line r.f1) := hK1 k hk
      rw [selvageref10_rows.l0, if_pos (by omega), if_pos (by omega), rd_row, ← hr, r_old, r_new, hline]
      unfold good
      cases e <;> cases o <;> cases isOld r <;> cases isNew r <;> cases line r.f1 <;> simp
    cases hg : good r e o with
    | false =>
      refine ⟨K1 + 2, fun k hk => ?_⟩
      obtain ⟨k, rfl⟩ : ∃ j, k = j + 1 + 1 := ⟨k - 2, by omega⟩
      show selvageref10_rows.l0 (k + 1 + 1) l e o ch (i : Int) = some _
      rw [hstep _ (by omega), hg, if_neg (by simp), selvageref10_rows.j1, if_pos (by rfl)]
    | true =>
      obtain ⟨K2, hK2⟩ := ih (i + 1) (e || (isOld r && !whole r.f1)) (o || (isNew r && !whole r.f1)) (ch || (r.f0 != 1)) (by omega)
      refine ⟨K1 + K2 + 2, fun k hk => ?_⟩
      obtain ⟨k, rfl⟩ : ∃ j, k = j + 1 + 1 := ⟨k - 2, by omega⟩
      show selvageref10_rows.l0 (k + 1 + 1) l e o ch (i : Int) = some _
      rw [hstep _ (by omega), hg, if_pos rfl, Bool.not_true, r_part k l e o ch i (by omega) r hz]
      exact hK2 k (by omega)
theorem r_rows (l : List Row) (hl : l.length ≤ 4000000000) (hs : ∀ r ∈ l, r.f1.size ≤ 4000000000) : Ev (fun k => selvageref10_rows.f k l) (rowsOk l false false false) := by
  have := r_rows_at l hl hs l.length 0 false false false (by omega)
  rw [List.drop_zero] at this
  exact this
theorem r_start (a n : Int) (hn : 0 ≤ n ∧ n ≤ 4000000000) : selvageref10_start.f a n = some (placeOk a n) := by
  unfold selvageref10_start.f placeOk
  rw [w64' (i := 2147483647 - n) (by omega) (by omega)]
  by_cases h1 : n = 0
  · rw [if_pos h1]
    by_cases h2 : a ≥ 0
    · rw [if_pos h2]; congr 1; exact decide_eq_decide.mpr (by omega)
    · rw [if_neg h2]; congr 1; symm; exact decide_eq_false (by omega)
  · rw [if_neg h1]
    by_cases h2 : a ≥ 1
    · rw [if_pos h2]; congr 1; exact decide_eq_decide.mpr (by omega)
    · rw [if_neg h2]; congr 1; symm; exact decide_eq_false (by omega)
theorem r_head_at (h : Hunk) (hs : h.f4.size ≤ 4000000000) (d : Nat) : ∀ (j : Nat) (x : Bool), j + d = h.f4.size →
    Ev (fun k => selvageref10_Valid.l0 k x (j : Int) h.f0 h.f1 h.f2 h.f3 h.f4 h.f5) (if (x && !decide (∃ y, y < h.f4.size ∧ j ≤ y ∧ bt h.f4 ((y : Nat) : Int) = 10)) = true then 0 else 100) := by
  induction d with
  | zero =>
    intro j x hj
    have hd : decide (∃ y, y < h.f4.size ∧ j ≤ y ∧ bt h.f4 ((y : Nat) : Int) = 10) = false := decide_eq_false (fun ⟨y, h1, h2, _⟩ => by omega)
    rw [hd]
    refine Ev.step (f := fun _ => some (if x = true then 0 else 100)) (fun k => ?_) ?_
    · rw [selvageref10_Valid.l0, if_neg (by omega)]
      cases x <;> rfl
    · cases x <;> exact Ev.pure _
  | succ d ih =>
    intro j x hj
    have wj : wrap64 ((j : Int) + 1) = ((j + 1 : Nat) : Int) := w_of (j + 1) _ (by omega) (by omega)
    cases x with
    | false =>
      have := ih (j + 1) false (by omega)
      rw [Bool.false_and] at this ⊢
      refine Ev.step (fun k => ?_) this
      rw [selvageref10_Valid.l0, if_pos (by omega), if_neg (by simp), wj]
    | true =>
      have := ih (j + 1) (bt h.f4 (j : Int) != 10) (by omega)
      have he : (true && !decide (∃ y, y < h.f4.size ∧ j ≤ y ∧ bt h.f4 ((y : Nat) : Int) = 10)) = ((bt h.f4 (j : Int) != 10) && !decide (∃ y, y < h.f4.size ∧ j + 1 ≤ y ∧ bt h.f4 ((y : Nat) : Int) = 10)) := by
        rw [Bool.true_and]
        by_cases hb : bt h.f4 (j : Int) = 10
        · rw [show (bt h.f4 (j : Int) != 10) = false from bne_eq_false_iff_eq.mpr hb, decide_eq_true ⟨j, by omega, Nat.le_refl _, hb⟩]; rfl
        · rw [show (bt h.f4 (j : Int) != 10) = true from bne_iff_ne.mpr hb, Bool.true_and]
          congr 1
          apply decide_eq_decide.mpr
          constructor
          · rintro ⟨y, h1, h2, h3⟩
            rcases Nat.lt_or_ge j y with c | c
            · exact ⟨y, h1, c, h3⟩
            · exact absurd h3 (by rw [show y = j by omega]; exact hb)
          · rintro ⟨y, h1, h2, h3⟩
            exact ⟨y, h1, by omega, h3⟩
      rw [he]
      refine Ev.step (fun k => ?_) this
      rw [selvageref10_Valid.l0, if_pos (by omega), if_pos rfl, if_pos (by omega), wj]
theorem r_hunk (h : Hunk) (hs : Small h) : Ev (fun k => selvageref10_Valid.f k h.f0 h.f1 h.f2 h.f3 h.f4 h.f5) (if hunkOk h = true then 0 else 100) := by
  have h1 := hs.rows
  have h2 := hs.head
  have hc1 := cntOld_le h.f5
  have hc2 := cntNew_le h.f5
  have jump : ∀ (x : Bool) (v : Int), (if (x && !decide (∃ y, y < h.f4.size ∧ bt h.f4 ((y : Nat) : Int) = 10)) = true then 0 else 100) = v → Ev (fun k => selvageref10_Valid.j0 k x h.f0 h.f1 h.f2 h.f3 h.f4 h.f5) v := by
    intro x v hv
    have := r_head_at h (by omega) h.f4.size 0 x (by omega)
    rw [show decide (∃ y, y < h.f4.size ∧ 0 ≤ y ∧ bt h.f4 ((y : Nat) : Int) = 10) = decide (∃ y, y < h.f4.size ∧ bt h.f4 ((y : Nat) : Int) = 10) from decide_eq_decide.mpr ⟨fun ⟨y, a, _, b⟩ => ⟨y, a, b⟩, fun ⟨y, a, b⟩ => ⟨y, a, Nat.zero_le _, b⟩⟩, hv] at this
    exact Ev.step (fun k => by rw [selvageref10_Valid.j0]; rfl) this
  unfold selvageref10_Valid.f
  refine Ev.bind (r_counts h.f5 (by omega)) (Ev.bind (r_rows h.f5 (by omega) (fun r hr => by have := hs.texts r hr; omega)) ?_)
  unfold hunkOk
  cases rowsOk h.f5 false false false with
  | false =>
    refine Ev.same (fun k => if_neg (by simp)) (jump false _ ?_)
    simp
  | true =>
    refine Ev.same (fun k => if_pos rfl) ?_
    simp only []
    by_cases c1 : h.f1 = (cntOld h.f5 : Int)
    · refine Ev.same (fun k => if_pos c1) ?_
      by_cases c2 : h.f3 = (cntNew h.f5 : Int)
      · refine Ev.same (fun k => if_pos c2) ?_
        rw [← c1, ← c2, decide_eq_true rfl, decide_eq_true rfl, r_start h.f0 h.f1 (by omega), r_start h.f2 h.f3 (by omega)]
        simp only [Option.bind_some]
        cases placeOk h.f0 h.f1 with
        | false =>
          refine Ev.same (fun k => if_neg (by simp)) (jump false _ ?_)
          simp
        | true =>
          refine Ev.same (fun k => if_pos rfl) ?_
          cases placeOk h.f2 h.f3 with
          | false =>
            refine Ev.same (fun k => if_neg (by simp)) (jump false _ ?_)
            simp
          | true =>
            refine Ev.same (fun k => if_pos rfl) (jump _ _ ?_)
            unfold headOk
            simp only [Bool.true_and]
            rw [show decide ((h.f4.size : Int) ≤ 4096) = decide (h.f4.size ≤ 4096) from decide_eq_decide.mpr (by omega)]
      · refine Ev.same (fun k => if_neg c2) (jump false _ ?_)
        rw [decide_eq_false c2]; simp
    · refine Ev.same (fun k => if_neg c1) (jump false _ ?_)
      rw [decide_eq_false c1]; simp
end Go.Proofs.YtecjoofjiockkaaGreatDoor.Pure
namespace Go.Proofs.YtecjoofjiockkaaGreatDoor.Pure
open Go.RowKit Go.Proofs.YtecjoofjiockkaaGreatDoor.Pp Go.Proofs.YtecjoofjiockkaaGreatDoor.Ext Go.Proofs.YtecjoofjiockkaaGreatDoorW.PrintWords Go.Proofs.YtecjoofjiockkaaGreatDoorW.PrintLast Go.Proofs.YtecjoofjiockkaaGreatDoorW.PrintMore
set_option linter.unusedVariables false
set_option linter.unusedSimpArgs false
theorem runB_drop : ∀ l : List Row, ∀ r t, l.drop (runB l) = r :: t → nb r = false
  | [], r, t, h => by simp at h
  | x :: l, r, t, h => by
    unfold runB at h
    by_cases hx : nb x = true
    · rw [if_pos hx, List.drop_succ_cons] at h
      exact runB_drop l r t h
    · rw [if_neg hx, List.drop_zero] at h
      injection h with h1 h2
      subst h1
      simpa using hx
theorem runB_cnt : ∀ (l : List Row) (j : Nat), j ≤ runB l → cntOld (l.take j) = j ∧ cntNew (l.take j) = j
  | [], j, h => by unfold runB at h; obtain rfl : j = 0 := by omega
                   exact ⟨rfl, rfl⟩
  | r :: t, 0, h => ⟨rfl, rfl⟩
  | r :: t, j + 1, h => by
    unfold runB at h
    by_cases hr : nb r = true
    · rw [if_pos hr] at h
      have ih := runB_cnt t j (by omega)
      have h1 : isOld r = true := by unfold nb at hr; unfold isOld; rw [hr]; rfl
      have h2 : isNew r = true := by unfold nb at hr; unfold isNew; rw [hr]; rfl
      rw [List.take_succ_cons]
      unfold cntOld cntNew at ih ⊢
      rw [List.countP_cons, List.countP_cons, h1, h2, ih.1, ih.2]
      exact ⟨rfl, rfl⟩
    · rw [if_neg hr] at h; omega
def frmR (c i last : Nat) : Option Nat → Nat
  | some p => if i - last > 2 * c then i - min c i else p
  | none => i - min c i
def outR (c i last : Nat) (out : List (Nat × Nat)) : Option Nat → List (Nat × Nat)
  | some p => if i - last > 2 * c then out ++ [(p, last + c)] else out
  | none => out
def cutsR (c : Nat) : List Row → Nat → Option Nat → Nat → List (Nat × Nat) → List (Nat × Nat) × Option Nat × Nat
  | [], _, f, last, out => (out, f, last)
  | r :: t, i, f, last, out =>
    if nb r = true then cutsR c t (i + 1) f last out else cutsR c t (i + 1) (some (frmR c i last f)) (i + 1) (outR c i last out f)
theorem cutsR_B (c : Nat) : ∀ (l : List Row) (i : Nat) (f : Option Nat) (last : Nat) (out : List (Nat × Nat)), cutsR c l i f last out = cutsR c (l.drop (runB l)) (i + runB l) f last out
  | [], i, f, last, out => rfl
  | r :: t, i, f, last, out => by
    by_cases hr : nb r = true
    · have e : runB (r :: t) = runB t + 1 := by rw [runB, if_pos hr]
      rw [e, List.drop_succ_cons, cutsR, if_pos hr, cutsR_B c t (i + 1) f last out, show i + 1 + runB t = i + (runB t + 1) by omega]
    · have e : runB (r :: t) = 0 := by rw [runB, if_neg hr]
      rw [e]; rfl
theorem cutsR_C (c : Nat) : ∀ (l : List Row) (i p : Nat) (out : List (Nat × Nat)), cutsR c l i (some p) i out = cutsR c (l.drop (runC l)) (i + runC l) (some p) (i + runC l) out
  | [], i, p, out => rfl
  | r :: t, i, p, out => by
    by_cases hr : nb r = true
    · have e : runC (r :: t) = 0 := by rw [runC, if_pos hr]
      rw [e]; rfl
    · have e : runC (r :: t) = runC t + 1 := by rw [runC, if_neg hr]
      rw [e, List.drop_succ_cons, cutsR, if_neg hr, frmR, outR, if_neg (by omega), if_neg (by omega), cutsR_C c t (i + 1) p out, show i + 1 + runC t = i + (runC t + 1) by omega]
theorem cutsR_round (c : Nat) (l : List Row) (i p : Nat) (out : List (Nat × Nat)) (hne : runB l < l.length) :
    cutsR c l i (some p) i out =
      cutsR c ((l.drop (runB l)).drop (runC (l.drop (runB l)))) (i + runB l + runC (l.drop (runB l))) (some (if 2 * c < runB l then i + runB l - c else p)) (i + runB l + runC (l.drop (runB l)))
        (if 2 * c < runB l then out ++ [(p, i + c)] else out) := by
  rw [cutsR_B]
  obtain ⟨r, t, e⟩ : ∃ r t, l.drop (runB l) = r :: t := by
    cases h : l.drop (runB l) with
    | nil => have := congrArg List.length h; rw [List.length_drop] at this; simp at this; omega
    | cons r t => exact ⟨r, t, rfl⟩
  have hr := runB_drop l r t e
  have e2 : runC (r :: t) = runC t + 1 := by rw [runC, if_neg (by simp [hr])]
  rw [e, e2, List.drop_succ_cons, cutsR, if_neg (by simp [hr]), frmR, outR]
  by_cases hc : 2 * c < runB l
  · rw [if_pos (by omega), if_pos (by omega), if_pos hc, if_pos hc, cutsR_C, show min c (i + runB l) = c by omega, show i + runB l + 1 + runC t = i + runB l + (runC t + 1) by omega]
  · rw [if_neg (by omega), if_neg (by omega), if_neg hc, if_neg hc, cutsR_C, show i + runB l + 1 + runC t = i + runB l + (runC t + 1) by omega]
theorem cutsR_first (c : Nat) (l : List Row) (hne : runB l < l.length) :
    cutsR c l 0 none 0 [] = cutsR c ((l.drop (runB l)).drop (runC (l.drop (runB l)))) (runB l + runC (l.drop (runB l))) (some (runB l - c)) (runB l + runC (l.drop (runB l))) [] := by
  rw [cutsR_B, Nat.zero_add]
  obtain ⟨r, t, e⟩ : ∃ r t, l.drop (runB l) = r :: t := by
    cases h : l.drop (runB l) with
    | nil => have := congrArg List.length h; rw [List.length_drop] at this; simp at this; omega
    | cons r t => exact ⟨r, t, rfl⟩
  have hr := runB_drop l r t e
  have e2 : runC (r :: t) = runC t + 1 := by rw [runC, if_neg (by simp [hr])]
  rw [e, e2, List.drop_succ_cons, cutsR, if_neg (by simp [hr]), frmR, outR, cutsR_C, show runB l - min c (runB l) = runB l - c by omega, show runB l + 1 + runC t = runB l + (runC t + 1) by omega]
theorem cutsR_end (c : Nat) (l : List Row) (i p : Nat) (out : List (Nat × Nat)) (he : runB l = l.length) : cutsR c l i (some p) i out = (out, some p, i) := by
  rw [cutsR_B, he, List.drop_of_length_le (Nat.le_refl _)]; rfl
end Go.Proofs.YtecjoofjiockkaaGreatDoor.Pure
namespace Go.Proofs.YtecjoofjiockkaaGreatDoor.Pure
open Go.RowKit Go.Proofs.YtecjoofjiockkaaGreatDoor.Pp Go.Proofs.YtecjoofjiockkaaGreatDoor.Ext Go.Proofs.YtecjoofjiockkaaGreatDoorW.PrintWords Go.Proofs.YtecjoofjiockkaaGreatDoorW.PrintLast Go.Proofs.YtecjoofjiockkaaGreatDoorW.PrintMore
set_option linter.unusedVariables false
set_option linter.unusedSimpArgs false
theorem of_wf {x : Int} (h : (Lit.int IntKind.i64 x).wf = true) : -9223372036854775808 ≤ x ∧ x ≤ 9223372036854775807 := by
  simp only [Lit.wf, Bool.and_eq_true, decide_eq_true_eq] at h
  exact ⟨h.1, h.2⟩
theorem mem_sum {α : Type} (f : α → Nat) : ∀ (l : List α), ∀ x ∈ l, f x ≤ (l.map f).sum
  | [], _, h => by cases h
  | y :: t, x, h => by
    rw [List.map_cons, List.sum_cons]
    rcases List.mem_cons.mp h with rfl | h
    · omega
    · have := mem_sum f t x h; omega
theorem len_sum {α : Type} (f : α → Nat) (c : Nat) (hf : ∀ x, c ≤ f x) : ∀ (l : List α), c * l.length ≤ (l.map f).sum
  | [] => by simp
  | y :: t => by
    have h1 := len_sum f c hf t
    have h2 := hf y
    rw [List.map_cons, List.sum_cons, List.length_cons, Nat.mul_add]; omega
def rowsSum (l : List Hunk) : Nat := (l.map fun h => h.f5.length).sum
theorem rowsSum_cons (h : Hunk) (t : List Hunk) : rowsSum (h :: t) = h.f5.length + rowsSum t := by unfold rowsSum; simp
def numE (e : Option Int) : Int := e.getD 0
theorem num_ev (e : Option Int) : Ev (fun _ => selvagelaw10_num.f e) (numE e) := Ev.pure _
theorem rd_hunk (l : List Hunk) (i : Nat) : rd_T29 l ((i : Nat) : Int) = l.getD i z29 := by show l.getD ((i : Int)).toNat _ = _; simp
theorem rd_mem (l : List Hunk) (i : Nat) (hi : i < l.length) : l.getD i z29 ∈ l := by
  rw [List.getD_eq_getElem?_getD, List.getElem?_eq_getElem hi]; exact List.getElem_mem hi
structure Hs (l : List Hunk) : Prop where
  all : ∀ h ∈ l, Small h
  count : l.length ≤ 1048576
  rows : rowsSum l ≤ 1048576
theorem wt_row (r : Row) : Ext.wt53 r = r.f1.size + 3 := by unfold Ext.wt53; omega
theorem wt_hunk (h : Hunk) : Ext.wt29 h = h.f4.size + (h.f5.map Ext.wt53).sum + 7 := by unfold Ext.wt29; omega
theorem rowsSum_le : ∀ l : List Hunk, rowsSum l ≤ (l.map Ext.wt29).sum
  | [] => by simp [rowsSum]
  | h :: t => by
    have h1 := rowsSum_le t
    have h2 := len_sum Ext.wt53 3 (fun r => by rw [wt_row]; omega) h.f5
    rw [rowsSum_cons, List.map_cons, List.sum_cons, wt_hunk]; omega
theorem small_of {h : Hunk} (hok : Ext.ok29 h) (hb : Ext.wt29 h ≤ 1048576) : Small h := by
  rw [wt_hunk] at hb
  have h2 := len_sum Ext.wt53 3 (fun r => by rw [wt_row]; omega) h.f5
  refine ⟨by omega, fun r hr => ?_, by omega, of_wf hok.1, of_wf hok.2.2.1⟩
  have := mem_sum Ext.wt53 h.f5 r hr
  rw [wt_row] at this; omega
theorem hs_of (l : List Hunk) (hok : ∀ z ∈ l, Ext.ok29 z) (hb : (l.map Ext.wt29).sum + 1 ≤ 1048576) : Hs l := by
  have h1 := len_sum Ext.wt29 7 (fun h => by rw [wt_hunk]; omega) l
  have h2 := rowsSum_le l
  exact ⟨fun h hm => small_of (hok h hm) (by have := mem_sum Ext.wt29 l h hm; omega), by omega, by omega⟩
theorem same_loop (h : Hunk) (hr : h.f5.length ≤ 4000000000) (d : Nat) : ∀ j : Nat, j + d = h.f5.length →
    Ev (fun k => selvagelaw10_same.l0 k (j : Int) h.f0 h.f1 h.f2 h.f3 h.f4 h.f5 h.f0 h.f1 h.f2 h.f3 h.f4 h.f5) true := by
  induction d with
  | zero =>
    intro j hj
    exact Ev.step (f := fun _ => some true) (fun k => by rw [selvagelaw10_same.l0, if_neg (by omega)]) (Ev.pure _)
  | succ d ih =>
    intro j hj
    have w1 : wrap64 ((j : Int) + 1) = ((j + 1 : Nat) : Int) := w_add j 1 (by omega)
    refine Ev.step (fun k => ?_) (ih (j + 1) (by omega))
    rw [selvagelaw10_same.l0, w1, if_pos (by omega), if_pos (by omega), if_pos (by omega), if_neg (by simp)]
theorem same_at (h : Hunk) (hr : h.f5.length ≤ 4000000000) : Ev (fun k => selvagelaw10_same.f k h.f0 h.f1 h.f2 h.f3 h.f4 h.f5 h.f0 h.f1 h.f2 h.f3 h.f4 h.f5) true := by
  unfold selvagelaw10_same.f
  refine Ev.same (fun k => by rw [if_pos rfl, if_pos rfl, if_pos rfl, if_pos rfl, if_pos rfl, bne_self_eq_false]) ?_
  exact Ev.step (fun k => by rw [selvagelaw10_same.j0, if_neg (by simp)]; rfl) (same_loop h hr _ 0 (Nat.zero_add _))
theorem sameAll_loop (l : List Hunk) (hl : l.length ≤ 4000000000) (hs : ∀ h ∈ l, h.f5.length ≤ 4000000000) (d : Nat) : ∀ i : Nat, i + d = l.length → Ev (fun k => selvagelaw10_sameAll.l0 k l l (i : Int)) true := by
  induction d with
  | zero =>
    intro i h
    exact Ev.step (f := fun _ => some true) (fun k => by rw [selvagelaw10_sameAll.l0, if_neg (by omega)]) (Ev.pure _)
  | succ d ih =>
    intro i h
    have hi : i < l.length := by omega
    have w1 : wrap64 ((i : Int) + 1) = ((i + 1 : Nat) : Int) := w_add i 1 (by omega)
    refine Ev.step (fun k => by rw [selvagelaw10_sameAll.l0, w1, if_pos (by omega), if_pos (by omega), if_pos (by omega), rd_hunk]) (Ev.bind (same_at _ (hs _ (rd_mem l i hi))) (Ev.same (fun k => if_pos rfl) (ih (i + 1) (by omega))))
theorem sameAll_at (l : List Hunk) (hl : l.length ≤ 4000000000) (hs : ∀ h ∈ l, h.f5.length ≤ 4000000000) : Ev (fun k => selvagelaw10_sameAll.f k l l) true :=
  Ev.same (fun k => by unfold selvagelaw10_sameAll.f; rw [if_pos rfl]; rfl) (sameAll_loop l hl hs l.length 0 (by omega))
theorem works_60 : selvagelaw10_works.f 60 = some true := by decide +kernel
theorem ev_works : Ev (fun k => selvagelaw10_works.f k) true := Ev.of (fun k => selvagelaw10_works.mono k) works_60
end Go.Proofs.YtecjoofjiockkaaGreatDoor.Pure
namespace Go.Proofs.YtecjoofjiockkaaGreatDoor.Pure
open Go.RowKit Go.Proofs.YtecjoofjiockkaaGreatDoor.Pp Go.Proofs.YtecjoofjiockkaaGreatDoor.Ext Go.Proofs.YtecjoofjiockkaaGreatDoorW.PrintWords Go.Proofs.YtecjoofjiockkaaGreatDoorW.PrintLast Go.Proofs.YtecjoofjiockkaaGreatDoorW.PrintMore
set_option linter.unusedVariables false
set_option linter.unusedSimpArgs false
def aheadI (a n : Int) : Int := if n > 0 then a - 1 else a
theorem ahead_at (a n : Int) (ha : -1000000000000 ≤ a ∧ a ≤ 1000000000000) : hunks_ahead.f a n = some (aheadI a n) := by
  unfold hunks_ahead.f aheadI
  split
  · rw [w64' (i := a - 1) (by omega) (by omega)]
  · rfl
theorem place_at (a n : Int) (ha : -1000000000000 ≤ a ∧ a ≤ 1000000000000) : selvageref10_Place.f a n = some (aheadI a n) := by
  unfold selvageref10_Place.f aheadI
  split
  · rw [w64' (i := a - 1) (by omega) (by omega)]
  · rfl
theorem hunk_rows {h : Hunk} (hk : hunkOk h = true) : rowsOk h.f5 false false false = true := by
  unfold hunkOk at hk
  simp only [Bool.and_eq_true] at hk
  exact hk.1.1.1.1.1
theorem hunk_places {h : Hunk} (hk : hunkOk h = true) : (0 ≤ h.f1 ∧ 0 ≤ h.f0 ∧ (0 < h.f0 ∨ h.f1 = 0) ∧ h.f0 ≤ 2147483647 ∧ h.f1 ≤ 2147483647 - h.f0) ∧ (0 ≤ h.f3 ∧ 0 ≤ h.f2 ∧ (0 < h.f2 ∨ h.f3 = 0) ∧ h.f2 ≤ 2147483647 ∧ h.f3 ≤ 2147483647 - h.f2) := by
  unfold hunkOk at hk
  simp only [Bool.and_eq_true] at hk
  exact ⟨of_decide_eq_true (show placeOk h.f0 h.f1 = true from hk.1.1.2), of_decide_eq_true (show placeOk h.f2 h.f3 = true from hk.1.2)⟩
theorem aheadI_in {a n : Int} (h : 0 ≤ n ∧ 0 ≤ a ∧ (0 < a ∨ n = 0) ∧ a ≤ 2147483647 ∧ n ≤ 2147483647 - a) : 0 ≤ aheadI a n ∧ aheadI a n ≤ 2147483647 ∧ aheadI a n + n ≤ 2147483647 := by
  unfold aheadI; split <;> omega
attribute [local irreducible] aheadI
end Go.Proofs.YtecjoofjiockkaaGreatDoor.Pure
namespace Go.Proofs.YtecjoofjiockkaaGreatDoor.Pure
open Go.RowKit Go.Proofs.YtecjoofjiockkaaGreatDoor.Pp Go.Proofs.YtecjoofjiockkaaGreatDoor.Ext Go.Proofs.YtecjoofjiockkaaGreatDoorW.PrintWords Go.Proofs.YtecjoofjiockkaaGreatDoorW.PrintLast Go.Proofs.YtecjoofjiockkaaGreatDoorW.PrintMore
set_option linter.unusedVariables false
set_option linter.unusedSimpArgs false
def oldT (l : List Row) : List ByteArray := (l.filter isOld).map (·.f1)
def newT (l : List Row) : List ByteArray := (l.filter isNew).map (·.f1)
theorem oldT_length (l : List Row) : (oldT l).length = cntOld l := by unfold oldT cntOld; rw [List.length_map, List.countP_eq_length_filter]
theorem newT_length (l : List Row) : (newT l).length = cntNew l := by unfold newT cntNew; rw [List.length_map, List.countP_eq_length_filter]
theorem oldT_cons (r : Row) (t : List Row) : oldT (r :: t) = (if isOld r = true then [r.f1] else []) ++ oldT t := by
  unfold oldT
  rw [List.filter_cons]
  split <;> simp
theorem newT_cons (r : Row) (t : List Row) : newT (r :: t) = (if isNew r = true then [r.f1] else []) ++ newT t := by
  unfold newT
  rw [List.filter_cons]
  split <;> simp
theorem sides_loop (l : List Row) (hl : l.length ≤ 1000000000) (d : Nat) : ∀ (i : Nat) (x y : List ByteArray), i + d = l.length → x.length ≤ i → y.length ≤ i →
    Ev (fun k => hunks_Sides.l0 k x y l (l.length : Int) (i : Int)) (x ++ oldT (l.drop i), y ++ newT (l.drop i)) := by
  induction d with
  | zero =>
    intro i x y h _ _
    rw [List.drop_of_length_le (by omega)]
    exact Ev.step (f := fun _ => some (x, y)) (fun k => by rw [hunks_Sides.l0, if_neg (by omega)]) (by simpa [oldT, newT] using Ev.pure _)
  | succ d ih =>
    intro i x y h hx hy
    have hi : i < l.length := by omega
    have w1 : wrap64 ((i : Int) + 1) = ((i + 1 : Nat) : Int) := w_add i 1 (by omega)
    have hrd := rd_row l i
    rw [drop_by l z53 i hi]
    generalize l.getD i z53 = r at hrd ⊢
    rw [oldT_cons, newT_cons]
    rcases kinds r with ⟨hk, h1, h2⟩ | ⟨hk, h1, h2⟩ | ⟨hk, h1, h2⟩ | ⟨⟨hk1, hk2, hk3⟩, h1, h2⟩
    · have := ih (i + 1) (x ++ [r.f1]) (y ++ [r.f1]) (by omega) (by simp; omega) (by simp; omega)
      rw [h1, h2, if_pos rfl, ← List.append_assoc, ← List.append_assoc]
      exact Ev.step (fun k => by rw [hunks_Sides.l0, if_pos (by omega), if_pos (by omega), if_pos (by omega), hrd, if_pos hk]) (Ev.step (fun k => by rw [hunks_Sides.j1, if_pos rfl, if_pos (by omega), Option.bind_some, if_pos hk, if_pos (by omega), w1]) this)
    · have := ih (i + 1) (x ++ [r.f1]) y (by omega) (by simp; omega) (by omega)
      have hb : (r.f0 == 2) = true := by simp [hk]
      rw [h1, h2, if_pos rfl, if_neg (by simp), List.nil_append, ← List.append_assoc]
      exact Ev.step (fun k => by rw [hunks_Sides.l0, if_pos (by omega), if_pos (by omega), if_pos (by omega), hrd, if_neg (by omega), hb]) (Ev.step (fun k => by rw [hunks_Sides.j1, if_pos rfl, if_pos (by omega), Option.bind_some, if_neg (by omega), if_neg (by omega), w1]) this)
    · have := ih (i + 1) x (y ++ [r.f1]) (by omega) (by omega) (by simp; omega)
      have hb : (r.f0 == 2) = false := by simp [hk]
      rw [h1, h2, if_pos rfl, if_neg (by simp), List.nil_append, ← List.append_assoc]
      exact Ev.step (fun k => by rw [hunks_Sides.l0, if_pos (by omega), if_pos (by omega), if_pos (by omega), hrd, if_neg (by omega), hb]) (Ev.step (fun k => by rw [hunks_Sides.j1, if_neg (by simp), if_neg (by omega), if_pos hk, if_pos (by omega), w1]) this)
    · have := ih (i + 1) x y (by omega) (by omega) (by omega)
      have hb : (r.f0 == 2) = false := by simp [hk2]
      rw [h1, h2, if_neg (by simp), List.nil_append, List.nil_append]
      exact Ev.step (fun k => by rw [hunks_Sides.l0, if_pos (by omega), if_pos (by omega), if_pos (by omega), hrd, if_neg hk1, hb]) (Ev.step (fun k => by rw [hunks_Sides.j1, if_neg (by simp), if_neg hk1, if_neg hk3, w1]) this)
theorem sides_at (a0 a1 a2 a3 : Int) (a4 : ByteArray) (l : List Row) (hl : l.length ≤ 1000000000) : Ev (fun k => hunks_Sides.f k a0 a1 a2 a3 a4 l) (oldT l, newT l) := by
  have := sides_loop l hl l.length 0 [] [] (by omega) (by simp) (by simp)
  rw [List.drop_zero] at this
  exact this
def stIf (a : Int) (n : Nat) : Int := if 0 < n then wrap64 (a + 1) else a
theorem counted_at (a0 a1 a2 a3 : Int) (hd : ByteArray) (l : List Row) (hl : l.length ≤ 1000000000) (a b : Int) : Ev (fun k => hunks_counted.f k a0 a1 a2 a3 hd l a b) (stIf a (cntOld l), (cntOld l : Int), stIf b (cntNew l), (cntNew l : Int), hd, l) := by
  have h := sides_at a0 a1 a2 a3 hd l hl
  unfold hunks_counted.f
  refine Ev.bind h ?_
  simp only [oldT_length, newT_length]
  unfold stIf
  by_cases h1 : 0 < cntOld l <;> by_cases h2 : 0 < cntNew l
  · rw [if_pos h1, if_pos h2]; exact Ev.same (fun k => by rw [if_pos (by omega), if_pos (by omega)]) (Ev.pure _)
  · rw [if_pos h1, if_neg h2]; exact Ev.same (fun k => by rw [if_pos (by omega), if_neg (by omega)]) (Ev.pure _)
  · rw [if_neg h1, if_pos h2]; exact Ev.same (fun k => by rw [if_neg (by omega), if_pos (by omega)]) (Ev.pure _)
  · rw [if_neg h1, if_neg h2]; exact Ev.same (fun k => by rw [if_neg (by omega), if_neg (by omega)]) (Ev.pure _)
def pcs (hd : ByteArray) (a b : Int) (l : List Row) : Hunk := ⟨stIf a (cntOld l), (cntOld l : Int), stIf b (cntNew l), (cntNew l : Int), hd, l⟩
theorem ev_map {α β : Type} {F : Nat → Option α} {v : α} (g : α → β) (h : Ev F v) : Ev (fun k => (F k).map g) (g v) := by
  have : Ev (fun k => (F k).bind fun x => some (g x)) (g v) := Ev.bind h (Ev.pure _)
  exact Ev.same (fun k => by cases F k <;> rfl) this
theorem piece_at (hd : ByteArray) (l : List Row) (a b : Int) (out : List Hunk) (hl : l.length ≤ 1000000000) (ho : out.length ≤ 1000000000) : Ev (fun k => pieceF k hd l a b out) (pcs (if out.length = 0 then hd else ⟨#[]⟩) a b l) := by
  unfold pieceF pcs
  exact Ev.same (fun k => if_pos ⟨hl, ho⟩) (ev_map _ (counted_at 0 0 0 0 ⟨#[]⟩ l hl a b))
def cutP (hd : ByteArray) (pa pb : Int) (rows : List Row) (x : Nat × Nat) : Hunk := pcs hd (pa + cntOld (rows.take x.1)) (pb + cntNew (rows.take x.1)) (seg rows x.1 x.2)
def cutsH (hd : ByteArray) (pa pb : Int) (rows : List Row) : List (Nat × Nat) → List Hunk
  | [] => []
  | x :: t => cutP hd pa pb rows x :: t.map (cutP ⟨#[]⟩ pa pb rows)
theorem cutsH_length (hd : ByteArray) (pa pb : Int) (rows : List Row) (xs : List (Nat × Nat)) : (cutsH hd pa pb rows xs).length = xs.length := by cases xs <;> simp [cutsH]
theorem cutsH_snoc (hd : ByteArray) (pa pb : Int) (rows : List Row) (xs : List (Nat × Nat)) (x : Nat × Nat) :
    cutsH hd pa pb rows (xs ++ [x]) = cutsH hd pa pb rows xs ++ [cutP (if (cutsH hd pa pb rows xs).length = 0 then hd else ⟨#[]⟩) pa pb rows x] := by
  cases xs with
  | nil => simp [cutsH]
  | cons y t => simp [cutsH]
theorem cnt_take (rows : List Row) (i j : Nat) (h : i ≤ j) : cntOld (rows.take j) = cntOld (rows.take i) + cntOld (seg rows i j) ∧ cntNew (rows.take j) = cntNew (rows.take i) + cntNew (seg rows i j) := by
  have e : rows.take j = rows.take i ++ seg rows i j := by
    unfold seg
    rw [show rows.take i = (rows.take j).take i by rw [List.take_take, Nat.min_eq_left h], List.take_append_drop]
  constructor
  · rw [e]; unfold cntOld; exact List.countP_append
  · rw [e]; unfold cntNew; exact List.countP_append
theorem cnt_both (rows : List Row) (q j : Nat) (h : j ≤ runB (rows.drop q)) : cntOld (rows.take (q + j)) = cntOld (rows.take q) + j ∧ cntNew (rows.take (q + j)) = cntNew (rows.take q) + j := by
  have e := cnt_take rows q (q + j) (by omega)
  have e2 : seg rows q (q + j) = (rows.drop q).take j := by unfold seg; rw [List.drop_take]; congr 1; omega
  have e3 := runB_cnt (rows.drop q) j h
  rw [e2, e3.1, e3.2] at e
  exact e
def fin (c n : Nat) (z : List (Nat × Nat) × Option Nat × Nat) : List (Nat × Nat) := z.1 ++ [(z.2.1.getD 0, z.2.2 + min c (n - z.2.2))]
theorem seg_tail (rows : List Row) (i : Nat) : seg rows i rows.length = tailR rows i := by unfold seg tailR; rw [List.take_length]
theorem seg_le (rows : List Row) (i j : Nat) : (seg rows i j).length ≤ rows.length := by unfold seg; rw [List.length_drop, List.length_take]; omega
theorem nar_prog (c : Nat) (hc : c ≤ 2147483647) (hd : ByteArray) (rows : List Row) (hr : rows.length ≤ 1000000000) (pa pb : Int) (ha : 0 ≤ pa ∧ pa ≤ 4294967296) (hb : 0 ≤ pb ∧ pb ≤ 4294967296) :
    ∀ (f q frm : Nat) (outs : List (Nat × Nat)) (a b : Int), 0 < q → q ≤ rows.length → frm ≤ q → outs.length ≤ q → rows.length + 1 ≤ q + f → a = pa + cntOld (rows.take frm) → b = pb + cntNew (rows.take frm) →
      Ev (fun k => narL k c hd rows f q frm a b (cutsH hd pa pb rows outs)) (cutsH hd pa pb rows (fin c rows.length (cutsR c (rows.drop q) q (some frm) q outs)))
  | 0, q, frm, outs, a, b, _, h1, _, _, h2, _, _ => by omega
  | f + 1, q, frm, outs, a, b, h0, h1, h3, h4, h2, ea, eb => by
    have hol : (cutsH hd pa pb rows outs).length ≤ 1000000000 := by rw [cutsH_length]; omega
    by_cases hq : q < rows.length
    · have hroom := runB_room rows q h1
      have hlen : (rows.drop q).length = rows.length - q := List.length_drop
      by_cases he : q + runB (rows.drop q) = rows.length
      · rw [cutsR_end c _ q frm outs (by omega)]
        unfold fin
        rw [cutsH_snoc]
        have hp := piece_at hd (seg rows frm (q + min (runB (rows.drop q)) c)) a b (cutsH hd pa pb rows outs) (Nat.le_trans (seg_le _ _ _) hr) hol
        refine Ev.same (fun k => by rw [narL, if_pos hq, if_neg (by omega), if_pos he]) ?_
        have := ev_map (fun p => cutsH hd pa pb rows outs ++ [p]) hp
        simp only [Option.getD_some]
        unfold cutP
        rw [← ea, ← eb, show min c (rows.length - q) = min (runB (rows.drop q)) c by omega]
        exact this
      · rw [cutsR_round c _ q frm outs (by omega)]
        have hn := nxt_room rows q h1
        have en : nxt rows q = q + runB (rows.drop q) + runC ((rows.drop q).drop (runB (rows.drop q))) := by unfold nxt; rw [List.drop_drop]
        have hprog : q < nxt rows q := by
          have hlt : q + runB (rows.drop q) < rows.length := by omega
          have := runC_at rows (q + runB (rows.drop q)) hlt
          have hz := runB_at rows (q + runB (rows.drop q)) hlt
          have hb0 : runB (rows.drop (q + runB (rows.drop q))) = 0 := by
            have h5 := runB_drop (rows.drop q)
            rw [List.drop_drop] at h5
            cases hx : rows.drop (q + runB (rows.drop q)) with
            | nil => rfl
            | cons r t => rw [runB, if_neg (by simp [h5 r t hx])]
          unfold nxt
          split at this
          · rename_i hk; rw [if_pos hk, hb0] at hz; omega
          · omega
        have ed : ((rows.drop q).drop (runB (rows.drop q))).drop (runC ((rows.drop q).drop (runB (rows.drop q)))) = rows.drop (nxt rows q) := by rw [en, List.drop_drop, List.drop_drop]; congr 1; omega
        rw [ed, ← en]
        have c1 := cntOld_le (rows.take frm)
        have c2 := cntNew_le (rows.take frm)
        have c3 : (rows.take frm).length ≤ rows.length := List.length_take_le' _ _
        by_cases h2c : 2 * c < runB (rows.drop q)
        · rw [if_pos h2c, if_pos h2c]
          have hp := piece_at hd (seg rows frm (q + c)) a b (cutsH hd pa pb rows outs) (Nat.le_trans (seg_le _ _ _) hr) hol
          have t1 := cnt_take rows frm (q + c) (by omega)
          have t2 := cnt_both rows q c (by omega)
          have t3 := cnt_both rows q (runB (rows.drop q) - c) (by omega)
          rw [show q + (runB (rows.drop q) - c) = q + runB (rows.drop q) - c by omega] at t3
          have b1 := cntOld_le (rows.take (q + runB (rows.drop q) - c))
          have b2 := cntNew_le (rows.take (q + runB (rows.drop q) - c))
          have b3 : (rows.take (q + runB (rows.drop q) - c)).length ≤ rows.length := List.length_take_le' _ _
          have ea2 : wrap64 (wrap64 (a + (cntOld (seg rows frm (q + c)) : Int)) + ((runB (rows.drop q) - 2 * c : Nat) : Int)) = pa + cntOld (rows.take (q + runB (rows.drop q) - c)) := by
            rw [w64' (i := a + _) (by omega) (by omega), w64' (by omega) (by omega)]; omega
          have eb2 : wrap64 (wrap64 (b + (cntNew (seg rows frm (q + c)) : Int)) + ((runB (rows.drop q) - 2 * c : Nat) : Int)) = pb + cntNew (rows.take (q + runB (rows.drop q) - c)) := by
            rw [w64' (i := b + _) (by omega) (by omega), w64' (by omega) (by omega)]; omega
          have hi := nar_prog c hc hd rows hr pa pb ha hb f (nxt rows q) (q + runB (rows.drop q) - c) (outs ++ [(frm, q + c)]) _ _ (by omega) hn.2 (by omega) (by simp; omega) (by omega) ea2 eb2
          refine Ev.same (fun k => by rw [narL, if_pos hq, if_neg (by omega), if_neg he, if_pos h2c]) (Ev.bind hp ?_)
          rw [cutsH_snoc] at hi
          unfold cutP at hi
          rw [← ea, ← eb] at hi
          exact hi
        · rw [if_neg h2c, if_neg h2c]
          have hi := nar_prog c hc hd rows hr pa pb ha hb f (nxt rows q) frm outs a b (by omega) hn.2 (by omega) (by omega) (by omega) ea eb
          exact Ev.same (fun k => by rw [narL, if_pos hq, if_neg (by omega), if_neg he, if_neg h2c]) hi
    · rw [List.drop_of_length_le (by omega)]
      obtain rfl : q = rows.length := by omega
      have hp := piece_at hd (tailR rows frm) a b (cutsH hd pa pb rows outs) (by unfold tailR; rw [List.length_drop]; omega) hol
      have := ev_map (fun p => cutsH hd pa pb rows outs ++ [p]) hp
      refine Ev.same (fun k => by rw [narL, if_neg hq]) ?_
      rw [cutsR]
      unfold fin
      rw [cutsH_snoc]
      simp only [Option.getD_some]
      unfold cutP
      rw [← ea, ← eb, show rows.length + min c (rows.length - rows.length) = rows.length by omega, seg_tail]
      exact this
theorem nar_first (c : Nat) (hc : c ≤ 2147483647) (hd : ByteArray) (rows : List Row) (hr : rows.length ≤ 1000000000) (pa pb : Int) (ha : 0 ≤ pa ∧ pa ≤ 4294967296) (hb : 0 ≤ pb ∧ pb ≤ 4294967296) (hch : runB rows < rows.length) :
    Ev (fun k => narL k c hd rows (rows.length + 1) 0 0 pa pb []) (cutsH hd pa pb rows (fin c rows.length (cutsR c rows 0 none 0 []))) := by
  have hn := nxt_room rows 0 (Nat.zero_le _)
  have en : nxt rows 0 = runB rows + runC (rows.drop (runB rows)) := by unfold nxt; rw [List.drop_zero, Nat.zero_add]
  have hprog : 0 < nxt rows 0 := by
    have := runC_at rows (runB rows) hch
    have hz := runB_at rows (runB rows) hch
    have hb0 : runB (rows.drop (runB rows)) = 0 := by
      cases hx : rows.drop (runB rows) with
      | nil => rfl
      | cons r t => rw [runB, if_neg (by simp [runB_drop rows r t hx])]
    rw [en]
    split at this
    · rename_i hk; rw [if_pos hk, hb0] at hz; omega
    · omega
  rw [cutsR_first c rows hch, List.drop_drop, ← en]
  have t := cnt_both rows 0 (runB rows - c) (by rw [List.drop_zero]; omega)
  rw [Nat.zero_add, List.take_zero] at t
  have z1 : cntOld ([] : List Row) = 0 := rfl
  have z2 : cntNew ([] : List Row) = 0 := rfl
  have hle := runB_le rows
  have hi := nar_prog c hc hd rows hr pa pb ha hb rows.length (nxt rows 0) (runB rows - c) [] (wrap64 (pa + ((runB rows - c : Nat) : Int))) (wrap64 (pb + ((runB rows - c : Nat) : Int))) hprog hn.2 (by omega) (by simp) (by omega)
    (by rw [w64' (by omega) (by omega)]; omega) (by rw [w64' (by omega) (by omega)]; omega)
  refine Ev.same (fun k => by rw [narL, if_pos (by omega), if_pos rfl, List.drop_zero]; rfl) hi
end Go.Proofs.YtecjoofjiockkaaGreatDoor.Pure
namespace Go.Proofs.YtecjoofjiockkaaGreatDoor.Pure
open Go.RowKit Go.Proofs.YtecjoofjiockkaaGreatDoor.Pp Go.Proofs.YtecjoofjiockkaaGreatDoor.Ext Go.Proofs.YtecjoofjiockkaaGreatDoorW.PrintWords Go.Proofs.YtecjoofjiockkaaGreatDoorW.PrintLast Go.Proofs.YtecjoofjiockkaaGreatDoorW.PrintMore
set_option linter.unusedVariables false
set_option linter.unusedSimpArgs false
theorem stated_if (a : Int) (n : Nat) : selvageref10_stated.f a (n : Int) = some (stIf a n) := by
  unfold selvageref10_stated.f stIf
  by_cases h : 0 < n
  · rw [if_pos (by omega), if_pos h]
  · rw [if_neg (by omega), if_neg h]
def cutT (pa pb : Int) (rows : List Row) (x : Nat × Nat) : Int × Int × Int × Int × ByteArray × List Row :=
  (stIf (pa + cntOld (rows.take x.1)) (cntOld (seg rows x.1 x.2)), (cntOld (seg rows x.1 x.2) : Int), stIf (pb + cntNew (rows.take x.1)) (cntNew (seg rows x.1 x.2)), (cntNew (seg rows x.1 x.2) : Int), (⟨#[]⟩ : ByteArray), seg rows x.1 x.2)
theorem r_cut (h0 h1 h2 h3 : Int) (h4 : ByteArray) (rows : List Row) (hr : rows.length ≤ 1000000000) (pa pb : Int) (ha : 0 ≤ pa ∧ pa ≤ 4294967296) (hb : 0 ≤ pb ∧ pb ≤ 4294967296)
    (e1 : selvageref10_Place.f h0 h1 = some pa) (e2 : selvageref10_Place.f h2 h3 = some pb) (i j : Nat) (hij : i ≤ j) (hj : j ≤ rows.length) :
    Ev (fun k => selvageref10_cut.f k h0 h1 h2 h3 h4 rows (i : Int) (j : Int)) (cutT pa pb rows (i, j)) := by
  have hs := seg_le rows i j
  have l1 : (rows.take i).length ≤ rows.length := List.length_take_le' _ _
  have c1 := r_counts (rows.take i) (by omega)
  have c2 := r_counts (seg rows i j) (by omega)
  have b1 := cntOld_le (rows.take i)
  have b2 := cntNew_le (rows.take i)
  have hseg : (rows.take ((j : Nat) : Int).toNat).drop i = seg rows i j := by unfold seg; rw [Int.toNat_natCast]
  have w1 : wrap64 (pa + (cntOld (rows.take i) : Int)) = pa + (cntOld (rows.take i) : Int) := w64' (by omega) (by omega)
  have w2 : wrap64 (pb + (cntNew (rows.take i) : Int)) = pb + (cntNew (rows.take i) : Int) := w64' (by omega) (by omega)
  unfold selvageref10_cut.f
  refine Ev.same (fun k => by rw [if_pos (by omega), if_pos (by omega), Int.toNat_natCast]) (Ev.bind c1 (Ev.same (fun k => by rw [e1, Option.bind_some, e2, Option.bind_some, if_pos (by omega), if_pos (by omega), hseg, Option.bind_some, if_pos (by rw [List.length_nil]; omega), Option.bind_some, List.nil_append]) (Ev.bind c2 (Ev.same (fun k => by rw [w1, w2, stated_if, Option.bind_some, stated_if, Option.bind_some]; rfl) (Ev.pure _)))))
def fI : Option Nat → Int
  | none => -1
  | some p => (p : Int)
theorem fI_some (p : Nat) : fI (some p) = (p : Int) := rfl
theorem mn_nat (a b : Nat) : mn (a : Int) (b : Int) = ((min a b : Nat) : Int) := by unfold mn; split <;> omega
theorem set_head (hd : ByteArray) (pa pb : Int) (rows : List Row) (xs : List (Nat × Nat)) (x : Nat × Nat) (y : List Hunk) (hy : y = (xs ++ [x]).map (cutP ⟨#[]⟩ pa pb rows)) :
    y.set (0 : Int).toNat ⟨(rd_T29 y 0).f0, (rd_T29 y 0).f1, (rd_T29 y 0).f2, (rd_T29 y 0).f3, hd, (rd_T29 y 0).f5⟩ = cutsH hd pa pb rows (xs ++ [x]) := by
  subst hy
  cases xs with
  | nil => rfl
  | cons z t => rfl
theorem cut_hunk (pa pb : Int) (rows : List Row) (x : Nat × Nat) : (⟨(cutT pa pb rows x).1, (cutT pa pb rows x).2.1, (cutT pa pb rows x).2.2.1, (cutT pa pb rows x).2.2.2.1, (cutT pa pb rows x).2.2.2.2.1, (cutT pa pb rows x).2.2.2.2.2⟩ : Hunk) = cutP ⟨#[]⟩ pa pb rows x := rfl
theorem nar_ref (c : Nat) (hc : c ≤ 2147483647) (h0 h1 h2 h3 : Int) (h4 : ByteArray) (rows : List Row) (hr : rows.length ≤ 1000000000) (pa pb : Int) (ha : 0 ≤ pa ∧ pa ≤ 4294967296) (hb : 0 ≤ pb ∧ pb ≤ 4294967296)
    (e1 : selvageref10_Place.f h0 h1 = some pa) (e2 : selvageref10_Place.f h2 h3 = some pb) (d : Nat) : ∀ (i : Nat) (f : Option Nat) (last : Nat) (outs : List (Nat × Nat)), i + d = rows.length → last ≤ i → (∀ p, f = some p → p ≤ last) → outs.length ≤ i →
      (cutsR c (rows.drop i) i f last outs).2.1 ≠ none →
      Ev (fun k => selvageref10_Narrow.l0 k (c : Int) (outs.map (cutP ⟨#[]⟩ pa pb rows)) (fI f) (last : Int) (i : Int) h0 h1 h2 h3 h4 rows) (cutsH h4 pa pb rows (fin c rows.length (cutsR c (rows.drop i) i f last outs)), 0) := by
  induction d with
  | zero =>
    intro i f last outs h hl hf ho hne
    obtain rfl : i = rows.length := by omega
    rw [List.drop_of_length_le (Nat.le_refl _), cutsR] at hne ⊢
    cases f with
    | none => exact absurd rfl hne
    | some p =>
      have hp := hf p rfl
      have w1 : wrap64 ((rows.length : Int) - (last : Int)) = ((rows.length - last : Nat) : Int) := by rw [w64' (by omega) (by omega)]; omega
      have w2 : wrap64 ((last : Int) + ((min c (rows.length - last) : Nat) : Int)) = ((last + min c (rows.length - last) : Nat) : Int) := w_add last (min c (rows.length - last)) (by omega)
      have hcut := r_cut h0 h1 h2 h3 h4 rows hr pa pb ha hb e1 e2 p (last + min c (rows.length - last)) (by omega) (by omega)
      refine Ev.step (fun k => by rw [selvageref10_Narrow.l0, if_neg (by omega), w1, mn_nat, w2, fI_some]) (Ev.bind hcut (Ev.same (fun k => by rw [if_pos (by rw [List.length_map]; omega), Option.bind_some, cut_hunk, if_pos (by rw [List.length_append, List.length_singleton]; omega)]) ?_))
      unfold fin
      simp only [Option.getD_some]
      rw [← set_head h4 pa pb rows outs (p, last + min c (rows.length - last)) _ (by rw [List.map_append])]
      exact Ev.pure _
  | succ d ih =>
    intro i f last outs h hl hf ho hne
    have hi : i < rows.length := by omega
    have w1 : wrap64 ((i : Int) + 1) = ((i + 1 : Nat) : Int) := w_add i 1 (by omega)
    have hrd := rd_row rows i
    rw [drop_by rows z53 i hi] at hne ⊢
    generalize rows.getD i z53 = r at hrd hne ⊢
    by_cases hk : r.f0 = 1
    · have hnb : nb r = true := by unfold nb; simp [hk]
      rw [cutsR, if_pos hnb] at hne ⊢
      exact Ev.step (fun k => by rw [selvageref10_Narrow.l0, if_pos (by omega), if_pos (by omega), hrd, if_pos hk, w1]) (ih (i + 1) f last outs (by omega) (by omega) hf (by omega) hne)
    · have hnb : ¬ nb r = true := by unfold nb; simp [hk]
      rw [cutsR, if_neg hnb] at hne ⊢
      have w2 : wrap64 ((i : Int) - ((min c i : Nat) : Int)) = ((i - min c i : Nat) : Int) := by rw [w64' (by omega) (by omega)]; omega
      have hi2 := ih (i + 1) (some (frmR c i last f)) (i + 1) (outR c i last outs f) (by omega) (Nat.le_refl _) (fun p e => by
        injection e with e
        subst e
        unfold frmR
        cases f with
        | none => simp only []; omega
        | some p => have := hf p rfl; simp only []; split <;> omega) (by
        cases f with
        | none => show outs.length ≤ i + 1; omega
        | some p => show (if i - last > 2 * c then outs ++ [(p, last + c)] else outs).length ≤ i + 1; split; (rw [List.length_append, List.length_singleton]; omega); omega) hne
      cases f with
      | none =>
        unfold frmR outR at hi2 ⊢
        simp only [] at hi2 ⊢
        rw [fI_some] at hi2
        have hf0 : fI none = -1 := rfl
        rw [hf0]
        refine Ev.step (fun k => by rw [selvageref10_Narrow.l0, if_pos (by omega), if_pos (by omega), hrd, if_neg hk, if_neg (by decide)]) (Ev.step (fun k => by rw [selvageref10_Narrow.j2, if_neg (by simp), if_pos (by decide), mn_nat, w2, w1]) hi2)
      | some p =>
        have hp := hf p rfl
        have W3 : Aside0 (wrap64 ((i : Int) - (last : Int)) = ((i - last : Nat) : Int)) := ⟨by rw [w64' (by omega) (by omega)]; omega⟩
        have W4 : Aside0 (wrap64 (2 * (c : Int)) = ((2 * c : Nat) : Int)) := ⟨by rw [w64' (by omega) (by omega)]; omega⟩
        have W1 := Aside0.mk w1
        have W2 := Aside0.mk w2
        clear w1 w2
        unfold frmR outR at hi2 ⊢
        simp only [] at hi2 ⊢
        rw [fI_some] at hi2 ⊢
        by_cases hcut : i - last > 2 * c
        · rw [if_pos hcut, if_pos hcut] at hi2 ⊢
          have hc2 := r_cut h0 h1 h2 h3 h4 rows hr pa pb ha hb e1 e2 p (last + c) (by omega) (by omega)
          have hd : decide (((i - last : Nat) : Int) > ((2 * c : Nat) : Int)) = true := decide_eq_true (by omega)
          have g1 : (i : Int) < (rows.length : Int) := by omega
          have g2 : (0 : Int) ≤ (i : Int) := by omega
          have g3 : (p : Int) ≥ 0 := by omega
          have g4 : (outs.map (cutP ⟨#[]⟩ pa pb rows)).length < 1954687338268 := by rw [List.length_map]; omega
          have w5 : wrap64 ((last : Int) + (c : Int)) = ((last + c : Nat) : Int) := w_add last c (by omega)
          refine Ev.step (fun k => by rw [selvageref10_Narrow.l0, if_pos g1, if_pos g2, hrd, if_neg hk, if_pos g3, W3.out, W4.out, hd]) (Ev.step (fun k => by rw [selvageref10_Narrow.j2, if_pos rfl, w5]) (Ev.bind hc2 (Ev.same (fun k => by rw [if_pos g4, Option.bind_some, cut_hunk, if_pos (by decide), mn_nat, W2.out, W1.out]) ?_)))
          rw [List.map_append] at hi2
          exact hi2
        · rw [if_neg hcut, if_neg hcut] at hi2 ⊢
          have hd : decide (((i - last : Nat) : Int) > ((2 * c : Nat) : Int)) = false := decide_eq_false (by omega)
          have g1 : (i : Int) < (rows.length : Int) := by omega
          have g2 : (0 : Int) ≤ (i : Int) := by omega
          have g3 : (p : Int) ≥ 0 := by omega
          have g5 : ¬ (p : Int) < 0 := by omega
          refine Ev.step (fun k => by rw [selvageref10_Narrow.l0, if_pos g1, if_pos g2, hrd, if_neg hk, if_pos g3, W3.out, W4.out, hd]) (Ev.step (fun k => by rw [selvageref10_Narrow.j2, if_neg (by simp), if_neg g5, W1.out]) hi2)
theorem ok_change : ∀ (l : List Row) (e o : Bool), rowsOk l e o false = true → runB l < l.length
  | [], e, o, h => by simp [rowsOk] at h
  | r :: t, e, o, h => by
    unfold rowsOk at h
    split at h
    case isFalse => cases h
    unfold runB
    by_cases hk : nb r = true
    · rw [if_pos hk]
      have hb : (r.f0 != 1) = false := by unfold nb at hk; simpa using hk
      rw [hb, Bool.or_false] at h
      have := ok_change t _ _ h
      rw [List.length_cons]; omega
    · rw [if_neg hk, List.length_cons]; omega
theorem cutsR_some (c : Nat) : ∀ (l : List Row) (i : Nat) (f : Option Nat) (last : Nat) (outs : List (Nat × Nat)), (f ≠ none ∨ runB l < l.length) → (cutsR c l i f last outs).2.1 ≠ none
  | [], i, f, last, outs, h => by
    rcases h with h | h
    · exact h
    · exact absurd h (by simp)
  | r :: t, i, f, last, outs, h => by
    rw [cutsR]
    split
    · rename_i hk
      refine cutsR_some c t _ _ _ _ ?_
      rcases h with h | h
      · exact .inl h
      · rw [runB, if_pos hk, List.length_cons] at h; exact .inr (by omega)
    · exact cutsR_some c t _ _ _ _ (.inl (by simp))
def narS (h : Hunk) (c : Int) : List Hunk × Option Int :=
  if c < 0 ∨ 2147483647 < c then ([], some 1) else if hunkOk h = true then
    (cutsH h.f4 (aheadI h.f0 h.f1) (aheadI h.f2 h.f3) h.f5 (fin c.toNat h.f5.length (cutsR c.toNat h.f5 0 none 0 [])), none) else ([], some 100)
theorem p_narrow (h : Hunk) (hs : Small h) (c : Int) : Ev (fun k => hunks_Narrow.f k h.f0 h.f1 h.f2 h.f3 h.f4 h.f5 c) (narS h c) := by
  unfold narS hunks_Narrow.f
  by_cases d1 : c < 0
  · rw [if_pos (.inl d1)]
    exact Ev.same (fun k => if_pos d1) (Ev.pure _)
  · by_cases d2 : 2147483647 < c
    · rw [if_pos (.inr d2)]
      exact Ev.same (fun k => by rw [if_neg d1, if_pos d2]) (Ev.pure _)
    · rw [if_neg (by omega)]
      have hv := p_hunk h hs
      unfold validF at hv
      obtain ⟨n, rfl⟩ : ∃ n : Nat, c = (n : Int) := ⟨c.toNat, by omega⟩
      by_cases hk : hunkOk h = true
      · rw [if_pos hk] at hv ⊢
        obtain ⟨q1, q2⟩ := hunk_places hk
        have r1 := aheadI_in q1
        have r2 := aheadI_in q2
        have a1 : aheadN h.f0 h.f1 = aheadI h.f0 h.f1 := by
          have e1 := ahead_at h.f0 h.f1 (by omega)
          rw [aheadN_eq] at e1
          exact Option.some.inj e1
        have a2 : aheadN h.f2 h.f3 = aheadI h.f2 h.f3 := by
          have e1 := ahead_at h.f2 h.f3 (by omega)
          rw [aheadN_eq] at e1
          exact Option.some.inj e1
        have hrl := hs.rows
        have := nar_first n (by omega) h.f4 h.f5 (by omega) (aheadI h.f0 h.f1) (aheadI h.f2 h.f3) (by omega) (by omega) (ok_change _ _ _ (hunk_rows hk))
        refine Ev.same (fun k => by rw [if_neg d1, if_neg d2, hv, Option.bind_some, if_pos (show (none : Option Int).isNone = true from rfl), if_pos (by omega), Int.toNat_natCast, a1, a2]) ?_
        rw [Int.toNat_natCast]
        exact ev_map (fun r => (r, (none : Option Int))) this
      · rw [if_neg hk] at hv ⊢
        exact Ev.same (fun k => by rw [if_neg d1, if_neg d2, hv, Option.bind_some, if_neg (by simp)]) (Ev.pure _)
theorem r_narrow (h : Hunk) (hs : Small h) (c : Int) : Ev (fun k => selvageref10_Narrow.f k h.f0 h.f1 h.f2 h.f3 h.f4 h.f5 c) ((narS h c).1, numE (narS h c).2) := by
  unfold narS selvageref10_Narrow.f
  by_cases d1 : c < 0
  · rw [if_pos (.inl d1)]
    exact Ev.same (fun k => if_pos d1) (Ev.step (f := fun _ => some ([], 1)) (fun k => by rw [selvageref10_Narrow.j0, if_pos rfl]) (Ev.pure _))
  · by_cases d2 : 2147483647 < c
    · rw [if_pos (.inr d2)]
      exact Ev.same (fun k => by rw [if_neg d1]) (Ev.step (f := fun _ => some ([], 1)) (fun k => by rw [selvageref10_Narrow.j0, if_pos (decide_eq_true (by omega))]) (Ev.pure _))
    · rw [if_neg (by omega)]
      have hv := r_hunk h hs
      obtain ⟨n, rfl⟩ : ∃ n : Nat, c = (n : Int) := ⟨c.toNat, by omega⟩
      have hd : decide ((n : Int) > 2147483647) = false := decide_eq_false (by omega)
      refine Ev.same (fun k => by rw [if_neg d1, hd]) (Ev.step (fun k => by rw [selvageref10_Narrow.j0, if_neg (by simp)]) (Ev.bind hv ?_))
      by_cases hk : hunkOk h = true
      · rw [if_pos hk, if_pos hk]
        refine Ev.same (fun k => if_pos rfl) ?_
        obtain ⟨q1, q2⟩ := hunk_places hk
        have r1 := aheadI_in q1
        have r2 := aheadI_in q2
        have hrl := hs.rows
        have hch := ok_change _ _ _ (hunk_rows hk)
        have := nar_ref n (by omega) h.f0 h.f1 h.f2 h.f3 h.f4 h.f5 (by omega) (aheadI h.f0 h.f1) (aheadI h.f2 h.f3) (by omega) (by omega) (place_at _ _ (by omega)) (place_at _ _ (by omega)) h.f5.length 0 none 0 [] (by omega) (Nat.le_refl _) (fun p e => by cases e) (Nat.le_refl _) (by rw [List.drop_zero]; exact cutsR_some n h.f5 0 none 0 [] (.inr hch))
        rw [Int.toNat_natCast]
        rw [List.drop_zero] at this
        exact this
      · rw [if_neg hk, if_neg hk]
        exact Ev.same (fun k => if_neg (by decide)) (Ev.pure _)
theorem cutsR_len (c : Nat) : ∀ (l : List Row) (i : Nat) (f : Option Nat) (last : Nat) (outs : List (Nat × Nat)), (cutsR c l i f last outs).1.length ≤ l.length + outs.length
  | [], i, f, last, outs => by rw [cutsR]; simp
  | r :: t, i, f, last, outs => by
    rw [cutsR]
    split
    · have := cutsR_len c t (i + 1) f last outs; rw [List.length_cons]; omega
    · have := cutsR_len c t (i + 1) (some (frmR c i last f)) (i + 1) (outR c i last outs f)
      have h2 : (outR c i last outs f).length ≤ outs.length + 1 := by
        unfold outR
        cases f with
        | none => simp only []; omega
        | some p => simp only []; split <;> simp
      rw [List.length_cons]; omega
theorem nar_small (h : Hunk) (hs : Small h) (c : Int) : (narS h c).1.length ≤ 2000000 ∧ ∀ x ∈ (narS h c).1, x.f5.length ≤ 4000000000 := by
  have hr := hs.rows
  unfold narS
  split
  · exact ⟨by simp, fun x hx => by cases hx⟩
  · split
    · refine ⟨?_, fun x hx => ?_⟩
      · simp only [cutsH_length]
        unfold fin
        rw [List.length_append]
        have := cutsR_len c.toNat h.f5 0 none 0 []
        simp only [List.length_nil, List.length_singleton, List.length_cons] at this ⊢
        omega
      · simp only at hx
        generalize fin c.toNat h.f5.length (cutsR c.toNat h.f5 0 none 0 []) = xs at hx
        cases xs with
        | nil => cases hx
        | cons y t =>
          rw [cutsH] at hx
          rcases List.mem_cons.mp hx with rfl | hx
          · have := seg_le h.f5 y.1 y.2
            show (seg h.f5 y.1 y.2).length ≤ _
            omega
          · obtain ⟨z, _, rfl⟩ := List.mem_map.mp hx
            have := seg_le h.f5 z.1 z.2
            show (seg h.f5 z.1 z.2).length ≤ _
            omega
    · exact ⟨by simp, fun x hx => by cases hx⟩
end Go.Proofs.YtecjoofjiockkaaGreatDoor.Pure
namespace Go.Proofs.YtecjoofjiockkaaGreatDoor.Pure
open Go.RowKit Go.Proofs.YtecjoofjiockkaaGreatDoor.Pp Go.Proofs.YtecjoofjiockkaaGreatDoor.Ext Go.Proofs.YtecjoofjiockkaaGreatDoorW.PrintWords Go.Proofs.YtecjoofjiockkaaGreatDoorW.PrintLast Go.Proofs.YtecjoofjiockkaaGreatDoorW.PrintMore
set_option linter.unusedVariables false
set_option linter.unusedSimpArgs false
theorem twin_at (h : Hunk) (hr : h.f5.length ≤ 1000000000) : selvagelaw10_twin.f h.f0 h.f1 h.f2 h.f3 h.f4 h.f5 = some (h.f0, h.f1, h.f2, h.f3, h.f4, h.f5) := by
  unfold selvagelaw10_twin.f
  rw [if_pos (by rw [List.length_nil]; omega), List.nil_append]
theorem narrow_loop (l : List Hunk) (hl : Hs l) (c : Int) (d : Nat) : ∀ i : Nat, i + d = l.length → Ev (fun k => selvagelaw10_HunksNarrow.l0 k l c (i : Int)) true := by
  have h1 := hl.count
  induction d with
  | zero =>
    intro i h
    exact Ev.step (fun k => by rw [selvagelaw10_HunksNarrow.l0, if_neg (by omega)]) (Ev.bind ev_works (Ev.pure _))
  | succ d ih =>
    intro i h
    have hi : i < l.length := by omega
    have w1 : wrap64 ((i : Int) + 1) = ((i + 1 : Nat) : Int) := w_add i 1 (by omega)
    have hs := hl.all _ (rd_mem l i hi)
    have hrd := rd_hunk l i
    generalize l.getD i z29 = x at hs hrd
    have hr := hs.rows
    have hp := p_narrow x hs c
    have hq := r_narrow x hs c
    obtain ⟨n1, n2⟩ := nar_small x hs c
    refine Ev.step (fun k => by rw [selvagelaw10_HunksNarrow.l0, if_pos (by omega), if_pos (by omega), hrd, twin_at x (by omega), Option.bind_some, w1]) (Ev.bind hp (Ev.bind hq (Ev.bind (sameAll_at _ (by omega) n2) (Ev.same (fun k => if_pos rfl) (Ev.bind (num_ev _) (Ev.same (fun k => if_pos rfl) (Ev.bind (same_at x (by omega)) (Ev.same (fun k => if_pos rfl) (ih (i + 1) (by omega))))))))))
theorem HunksNarrow : ∀ (a0 : List Hunk) (a1 : Int), (∀ z ∈ a0, Ext.ok29 z) → (Lit.int IntKind.i64 a1).wf = true → ((a0.map Ext.wt29).sum + 1) + 1 ≤ 1048576 → ∃ k, selvagelaw10_HunksNarrow.f k a0 a1 = some true := by
  intro a0 a1 hok _ hb
  exact Ev.rounds (narrow_loop a0 (hs_of a0 hok (by omega)) a1 a0.length 0 (by omega))
end Go.Proofs.YtecjoofjiockkaaGreatDoor.Pure
