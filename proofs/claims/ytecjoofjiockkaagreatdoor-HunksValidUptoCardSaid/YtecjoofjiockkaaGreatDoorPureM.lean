/-
  Lines, in plain Lean: what both sides take for a line, for a list of lines.
-/
import Derived.Test.YtecjoofjiockkaaGreatDoorEPure
import Derived.Test.YtecjoofjiockkaaGreatDoorPp11
import Derived.Test.YtecjoofjiockkaaGreatDoorPp3
import Derived.Test.YtecjoofjiockkaaGreatDoorPp20
import Derived.Test.YtecjoofjiockkaaGreatDoorPp4
import Derived.Lib.IndexLaws
import Derived.Test.YtecjoofjiockkaaGreatDoorEValid
import Derived.Test.YtecjoofjiockkaaGreatDoorESides
import Derived.Test.YtecjoofjiockkaaGreatDoorPp6
import Derived.Test.YtecjoofjiockkaaGreatDoorEKind
import Derived.Test.YtecjoofjiockkaaGreatDoorPp7
import Derived.Test.YtecjoofjiockkaaGreatDoorPp18
import Derived.Test.YtecjoofjiockkaaGreatDoorPp8
import Derived.Test.YtecjoofjiockkaaGreatDoorPp9
namespace Go.Proofs.YtecjoofjiockkaaGreatDoor.Pure
open Go.RowKit Go.Proofs.YtecjoofjiockkaaGreatDoor.Pp Go.Proofs.YtecjoofjiockkaaGreatDoor.Ext Go.Proofs.YtecjoofjiockkaaGreatDoorW.PrintWords Go.Proofs.YtecjoofjiockkaaGreatDoorW.PrintLast Go.Proofs.YtecjoofjiockkaaGreatDoorW.PrintMore
set_option linter.unusedVariables false
set_option linter.unusedSimpArgs false
theorem Ev.pure {α : Type} (v : α) : Ev (fun _ => some v) v := ⟨0, fun _ _ => rfl⟩
theorem Ev.same {α : Type} {F G : Nat → Option α} {v : α} (h : ∀ k, F k = G k) (hg : Ev G v) : Ev F v := Ev.congr h hg
theorem data_len (s : ByteArray) : s.data.toList.length = s.size := by rw [Array.length_toList]; rfl
theorem w_of (n : Nat) (m : Int) (h : m = (n : Int)) (hn : n ≤ 9223372036854775807) : wrap64 m = (n : Int) := by rw [h]; exact w64' (by omega) (by omega)
theorem bt_at (s : ByteArray) (j : Nat) (h : j < s.size) : (bt s (j : Int) = 10) ↔ s.data.toList[j]? = some 10 := by
  have hl : j < s.data.toList.length := by rw [data_len]; exact h
  rw [bt_list, List.getD_eq_getElem?_getD, List.getElem?_eq_getElem hl, Option.getD_some]
  constructor
  · intro e; congr 1; exact UInt8.toNat_inj.mp (by have : (10 : UInt8).toNat = 10 := rfl; omega)
  · intro e; injection e with e; rw [e]; rfl
theorem ix (s : ByteArray) : (Lib.indexByte s.data.toList 10 = -1 ∧ ∀ j : Nat, j < s.size → bt s (j : Int) ≠ 10) ∨
    (∃ o : Nat, o < s.size ∧ Lib.indexByte s.data.toList 10 = (o : Int) ∧ bt s (o : Int) = 10 ∧ ∀ j : Nat, j < o → bt s (j : Int) ≠ 10) := by
  have hge := Lib.indexByte_ge s.data.toList 10
  rcases (by omega : Lib.indexByte s.data.toList 10 = -1 ∨ 0 ≤ Lib.indexByte s.data.toList 10) with h | h
  · exact .inl ⟨h, fun j hj e => Lib.indexByte_none h j ((bt_at s j hj).mp e)⟩
  · obtain ⟨o, ho⟩ : ∃ o : Nat, Lib.indexByte s.data.toList 10 = o := ⟨_, (Int.toNat_of_nonneg h).symm⟩
    obtain ⟨h1, h2⟩ := Lib.indexByte_some ho
    have hlt : o < s.size := by
      rw [← data_len]
      exact (List.getElem?_eq_some_iff.mp h1).1
    exact .inr ⟨o, hlt, ho, (bt_at s o hlt).mpr h1, fun j hj e => h2 j hj ((bt_at s j (by omega)).mp e)⟩
def whole (s : ByteArray) : Bool := decide (0 < s.size ∧ bt s ((s.size : Int) - 1) = 10)
def body (s : ByteArray) : Bool := decide (∀ j, j < s.size - 1 → bt s ((j : Nat) : Int) ≠ 10)
def line (s : ByteArray) : Bool := decide (0 < s.size) && body s
theorem nil_size (s : ByteArray) : s.toList = ([] : List UInt8) ↔ ¬ 0 < s.size := by rw [toList_nil]; omega
theorem drop_by {α : Type} (l : List α) (d : α) (i : Nat) (h : i < l.length) : l.drop i = l.getD i d :: l.drop (i + 1) := by
  rw [List.getD_eq_getElem?_getD, List.getElem?_eq_getElem h]
  exact List.drop_eq_getElem_cons h
theorem last_byte (s : ByteArray) (n : Nat) (hn : s.size = n + 1) : ∃ b : UInt8, s.data.toList = s.data.toList.take n ++ [b] ∧ bt s (n : Int) = (b.toNat : Int) := by
  have hl : n < s.data.toList.length := by rw [data_len]; omega
  refine ⟨s.data.toList[n], ?_, ?_⟩
  · have h1 := List.take_append_drop n s.data.toList
    rw [List.drop_eq_getElem_cons hl, List.drop_of_length_le (by rw [data_len]; omega)] at h1
    exact h1.symm
  · rw [bt_list, List.getD_eq_getElem?_getD, List.getElem?_eq_getElem hl]; rfl
theorem suffix_at (s : ByteArray) (hs : s.size ≤ 4000000000) : stringslite_HasSuffix.f s (⟨#[10]⟩ : ByteArray) = some (whole s) := by
  unfold stringslite_HasSuffix.f
  have h1 : (⟨#[10]⟩ : ByteArray).size = 1 := rfl
  rw [h1]
  by_cases h : 0 < s.size
  · obtain ⟨n, hn⟩ : ∃ n, s.size = n + 1 := ⟨s.size - 1, by omega⟩
    have w : wrap64 ((s.size : Int) - ((1 : Nat) : Int)) = (n : Int) := by rw [w64' (by omega) (by omega)]; omega
    obtain ⟨b, hb, hv⟩ := last_byte s n hn
    have hsuf : (s.extract n s.size).toList = [b] := by
      rw [Lib.toList_data, Lib.extract_data, hb, List.drop_left' (by rw [List.length_take, data_len]; omega), hn, show n + 1 - n = 1 by omega]; rfl
    have h10 : (⟨#[10]⟩ : ByteArray).toList = ([10] : List UInt8) := by rw [Lib.toList_data]
    rw [if_pos (by omega), w, if_pos (by omega), if_pos (by omega), Int.toNat_natCast, hsuf, h10]
    unfold whole
    rw [show (s.size : Int) - 1 = (n : Int) by omega, hv]
    congr 1
    by_cases e : b = 10
    · rw [e, decide_eq_true ⟨h, by rfl⟩]; rfl
    · have hne : ¬ (b.toNat : Int) = 10 := fun x => e (UInt8.toNat_inj.mp (by have : (10 : UInt8).toNat = 10 := rfl; omega))
      rw [decide_eq_false (fun x => hne x.2)]
      simp [e]
  · rw [if_neg (by omega)]
    unfold whole
    rw [decide_eq_false (fun x => h x.1)]
theorem whole_at (s : ByteArray) (hs : s.size ≤ 4000000000) : lines_Whole.f s = some (whole s) := by
  unfold lines_Whole.f strings_HasSuffix.f
  rw [suffix_at s hs]; rfl
theorem r_whole_at (s : ByteArray) (hs : s.size ≤ 4000000000) : selvageref01_Whole.f s = some (whole s) := by
  unfold selvageref01_Whole.f whole
  by_cases h : 0 < s.size
  · rw [if_pos (by omega), w64' (by omega) (by omega), if_pos (by omega), if_pos (by omega)]
    congr 1
    by_cases e : bt s ((s.size : Int) - 1) = 10
    · rw [e, decide_eq_true ⟨h, rfl⟩]; rfl
    · rw [decide_eq_false (fun x => e x.2)]
      exact beq_eq_false_iff_ne.mpr e
  · rw [if_neg (by omega), decide_eq_false (fun x => h x.1)]
def bare (s : ByteArray) : ByteArray := if whole s = true then s.extract 0 (s.size - 1) else s
theorem bare_at (s : ByteArray) (hs : s.size ≤ 4000000000) : lines_Bare.f s = some (bare s) := by
  unfold lines_Bare.f strings_TrimSuffix.f stringslite_TrimSuffix.f bare
  rw [suffix_at s hs, Option.bind_some]
  have h1 : (⟨#[10]⟩ : ByteArray).size = 1 := rfl
  rw [h1]
  cases hw : whole s with
  | false => rw [if_neg (by simp), if_neg (by simp)]; rfl
  | true =>
    have h0 := (of_decide_eq_true hw).1
    rw [if_pos rfl, if_pos rfl, w64' (by omega) (by omega), if_pos (by omega), if_pos (by omega), show ((s.size : Int) - ((1 : Nat) : Int)).toNat = s.size - 1 by omega]
    rfl
theorem contains_at (s : ByteArray) : strings_Contains.f s (⟨#[10]⟩ : ByteArray) = some (decide (∃ j, j < s.size ∧ bt s ((j : Nat) : Int) = 10)) := by
  show some (decide (0 ≤ Lib.indexByte s.data.toList 10)) = _
  congr 1
  rcases ix s with ⟨hx, hn⟩ | ⟨o, ho, hx, hb, hn⟩
  · rw [hx, decide_eq_false (by omega)]
    symm
    exact decide_eq_false (fun ⟨j, h1, h2⟩ => hn j h1 h2)
  · rw [hx, decide_eq_true (by omega)]
    symm
    exact decide_eq_true ⟨o, ho, hb⟩
theorem bare_body (s : ByteArray) (h0 : 0 < s.size) : (!decide (∃ j, j < (bare s).size ∧ bt (bare s) ((j : Nat) : Int) = 10)) = body s := by
  unfold bare body
  cases hw : whole s with
  | true =>
    rw [if_pos rfl]
    have hz : (s.extract 0 (s.size - 1)).size = s.size - 1 := by rw [ByteArray.size_extract]; omega
    rw [← decide_not]
    congr 1
    apply propext
    constructor
    · intro h j hj e
      exact h ⟨j, by rw [hz]; exact hj, by rw [bt_extract s 0 (s.size - 1) j (by omega), Nat.zero_add]; exact e⟩
    · rintro h ⟨j, hj, e⟩
      rw [hz] at hj
      rw [bt_extract s 0 (s.size - 1) j (by omega), Nat.zero_add] at e
      exact h j hj e
  | false =>
    rw [if_neg (by simp), ← decide_not]
    have hlast : bt s ((s.size : Int) - 1) ≠ 10 := fun e => (of_decide_eq_false hw) ⟨h0, e⟩
    congr 1
    apply propext
    constructor
    · intro h j hj e
      exact h ⟨j, by omega, e⟩
    · rintro h ⟨j, hj, e⟩
      by_cases hj2 : j < s.size - 1
      · exact h j hj2 e
      · exact hlast (by rw [show (s.size : Int) - 1 = (j : Int) by omega]; exact e)
theorem line_at (s : ByteArray) (hs : s.size ≤ 4000000000) : hunks_line.f s = some (line s) := by
  unfold hunks_line.f line
  by_cases h0 : 0 < s.size
  · rw [if_neg (by rw [nil_size]; omega), bare_at s hs, Option.bind_some, contains_at, Option.bind_some, bare_body s h0, decide_eq_true h0]; rfl
  · rw [if_pos (by rw [nil_size]; exact h0), decide_eq_false h0]; rfl
theorem r_line_at (s : ByteArray) (hs : s.size ≤ 4000000000) (d : Nat) : ∀ j : Nat, (j : Int) + d = max 0 ((s.size : Int) - 1) → (∀ x : Nat, x < j → bt s (x : Int) ≠ 10) → Ev (fun k => selvageref10_line.l0 k s (j : Int)) (line s) := by
  induction d with
  | zero =>
    intro j hj hn
    refine Ev.step (f := fun _ => some (line s)) (fun k => ?_) (Ev.pure _)
    have hb : body s = true := decide_eq_true (fun x hx => hn x (by omega))
    rw [selvageref10_line.l0, w64' (by omega) (by omega), if_neg (by omega)]
    unfold line
    rw [hb, Bool.and_true]
    congr 1
    by_cases h0 : 0 < s.size
    · rw [decide_eq_true h0]; exact bne_iff_ne.mpr (by rw [Ne, nil_size]; omega)
    · rw [decide_eq_false h0]; exact bne_eq_false_iff_eq.mpr (by rw [nil_size]; exact h0)
  | succ d ih =>
    intro j hj hn
    by_cases hb : bt s (j : Int) = 10
    · refine Ev.step (f := fun _ => some (line s)) (fun k => ?_) (Ev.pure _)
      rw [selvageref10_line.l0, w64' (by omega) (by omega), if_pos (by omega), if_pos (by omega), if_pos (by omega), if_pos hb]
      have hb2 : body s = false := decide_eq_false (fun hh => hh j (by omega) hb)
      unfold line
      rw [hb2]; simp
    · refine Ev.step (fun k => ?_) (ih (j + 1) (by omega) (fun x hx => by rcases Nat.lt_or_ge x j with h' | h'; exact hn x h'; rw [show x = j by omega]; exact hb))
      rw [selvageref10_line.l0, w64' (i := (s.size : Int) - 1) (by omega) (by omega), if_pos (by omega), if_pos (by omega), if_pos (by omega), if_neg hb, w_of (j + 1) _ (by omega) (by omega)]
theorem r_line (s : ByteArray) (hs : s.size ≤ 4000000000) : Ev (fun k => selvageref10_line.f k s) (line s) :=
  r_line_at s hs (max 0 ((s.size : Int) - 1)).toNat 0 (by omega) (fun x hx => by omega)
end Go.Proofs.YtecjoofjiockkaaGreatDoor.Pure
namespace Go.Proofs.YtecjoofjiockkaaGreatDoor.Pure
open Go.RowKit Go.Proofs.YtecjoofjiockkaaGreatDoor.Pp Go.Proofs.YtecjoofjiockkaaGreatDoor.Ext Go.Proofs.YtecjoofjiockkaaGreatDoorW.PrintWords Go.Proofs.YtecjoofjiockkaaGreatDoorW.PrintLast Go.Proofs.YtecjoofjiockkaaGreatDoorW.PrintMore
set_option linter.unusedVariables false
set_option linter.unusedSimpArgs false
abbrev Row := S53
abbrev Hunk := S29
def isOld (r : Row) : Bool := r.f0 == 1 || r.f0 == 2
def isNew (r : Row) : Bool := r.f0 == 1 || r.f0 == 3
def good (r : Row) (e o : Bool) : Bool := (isOld r || isNew r) && line r.f1 && !(isOld r && e) && !(isNew r && o)
def rowsOk : List Row → Bool → Bool → Bool → Bool
  | [], _, _, ch => ch
  | r :: t, e, o, ch => if good r e o = true then rowsOk t (e || (isOld r && !whole r.f1)) (o || (isNew r && !whole r.f1)) (ch || (r.f0 != 1)) else false
def cntOld (l : List Row) : Nat := l.countP isOld
def cntNew (l : List Row) : Nat := l.countP isNew
theorem cntOld_le (l : List Row) : cntOld l ≤ l.length := List.countP_le_length
theorem cntNew_le (l : List Row) : cntNew l ≤ l.length := List.countP_le_length
theorem kinds (r : Row) : (r.f0 = 1 ∧ isOld r = true ∧ isNew r = true) ∨ (r.f0 = 2 ∧ isOld r = true ∧ isNew r = false) ∨ (r.f0 = 3 ∧ isOld r = false ∧ isNew r = true) ∨
    ((r.f0 ≠ 1 ∧ r.f0 ≠ 2 ∧ r.f0 ≠ 3) ∧ isOld r = false ∧ isNew r = false) := by
  by_cases h1 : r.f0 = 1
  · left; simp [isOld, isNew, h1]
  · by_cases h2 : r.f0 = 2
    · right; left; simp [isOld, isNew, h2]
    · by_cases h3 : r.f0 = 3
      · right; right; left; simp [isOld, isNew, h3]
      · right; right; right; simp [isOld, isNew, h1, h2, h3]
def placeOk (a n : Int) : Bool := decide (0 ≤ n ∧ 0 ≤ a ∧ (0 < a ∨ n = 0) ∧ a ≤ 2147483647 ∧ n ≤ 2147483647 - a)
def headOk (s : ByteArray) : Bool := decide (s.size ≤ 4096) && !decide (∃ j, j < s.size ∧ bt s ((j : Nat) : Int) = 10)
def hunkOk (h : Hunk) : Bool := rowsOk h.f5 false false false && decide (h.f1 = cntOld h.f5) && decide (h.f3 = cntNew h.f5) && placeOk h.f0 h.f1 && placeOk h.f2 h.f3 && headOk h.f4
theorem add_at (c : Int) (e : Bool) (s : ByteArray) (hs : s.size ≤ 4000000000) : hunks_side_add.f c e s = some (if e = true then (false, c, e) else (true, wrap64 (c + 1), !whole s)) := by
  unfold hunks_side_add.f
  cases e with
  | true => rfl
  | false => rw [if_neg (by simp), whole_at s hs, if_neg (by simp)]; rfl
theorem p_sides : ∀ (l : List Row) (c d : Nat) (e f ch : Bool), c + l.length ≤ 4000000000 → d + l.length ≤ 4000000000 → (∀ r ∈ l, r.f1.size ≤ 4000000000) →
    ∃ x, sidesF l c e d f ch = some x ∧ x.2.2 = rowsOk l e f ch ∧ (rowsOk l e f ch = true → x.1.1 = ((c + cntOld l : Nat) : Int) ∧ x.2.1.1 = ((d + cntNew l : Nat) : Int))
  | [], c, d, e, f, ch, _, _, _ => ⟨_, rfl, rfl, fun _ => ⟨rfl, rfl⟩⟩
  | r :: t, c, d, e, f, ch, hc, hd, hs => by
    have hr := hs r (List.mem_cons_self)
    have ht : ∀ r ∈ t, r.f1.size ≤ 4000000000 := fun x hx => hs x (List.mem_cons_of_mem _ hx)
    simp only [List.length_cons] at hc hd
    have wc : wrap64 ((c : Int) + 1) = ((c + 1 : Nat) : Int) := w_of (c + 1) _ (by omega) (by omega)
    have wd : wrap64 ((d : Int) + 1) = ((d + 1 : Nat) : Int) := w_of (d + 1) _ (by omega) (by omega)
    unfold sidesF rowsOk good
    rw [line_at _ hr]
    simp only [addIf, add_at _ _ _ hr, Option.bind_some]
    rcases kinds r with ⟨hk, h1, h2⟩ | ⟨hk, h1, h2⟩ | ⟨hk, h1, h2⟩ | ⟨hk, h1, h2⟩
    · rw [h1, h2, hk, if_neg (by omega), if_neg (by omega)]
      cases hl : line r.f1 with
      | false => exact ⟨_, by rw [if_neg (by simp)], by simp, by simp⟩
      | true =>
        cases e with
        | true => exact ⟨_, (by simp; rfl), by simp, by simp⟩
        | false =>
          cases f with
          | true => exact ⟨_, (by simp; rfl), by simp, by simp⟩
          | false =>
            obtain ⟨x, e1, e2, e3⟩ := p_sides t (c + 1) (d + 1) (!whole r.f1) (!whole r.f1) ch (by omega) (by omega) ht
            refine ⟨x, by simpa [wc, wd] using e1, by simpa using e2, fun h => ?_⟩
            have := e3 (by simpa using h)
            unfold cntOld cntNew at this ⊢
            simp only [List.countP_cons, h1, h2, Bool.false_eq_true, if_true, if_false, Nat.add_zero]
            exact ⟨this.1.trans (by congr 1; omega), this.2.trans (by congr 1; omega)⟩
    · rw [h1, h2, hk, if_neg (by omega), if_neg (by omega)]
      cases hl : line r.f1 with
      | false => exact ⟨_, by rw [if_neg (by simp)], by simp, by simp⟩
      | true =>
        cases e with
        | true => exact ⟨_, (by simp; rfl), by simp, by simp⟩
        | false =>
          obtain ⟨x, e1, e2, e3⟩ := p_sides t (c + 1) d (!whole r.f1) f true (by omega) (by omega) ht
          refine ⟨x, by simpa [wc] using e1, by simpa using e2, fun h => ?_⟩
          have := e3 (by simpa using h)
          unfold cntOld cntNew at this ⊢
          simp only [List.countP_cons, h1, h2, Bool.false_eq_true, if_true, if_false, Nat.add_zero]
          exact ⟨this.1.trans (by congr 1; omega), this.2⟩
    · rw [h1, h2, hk, if_neg (by omega), if_neg (by omega)]
      cases hl : line r.f1 with
      | false => exact ⟨_, by rw [if_neg (by simp)], by simp, by simp⟩
      | true =>
        cases f with
        | true => exact ⟨_, (by simp; rfl), by simp, by simp⟩
        | false =>
          obtain ⟨x, e1, e2, e3⟩ := p_sides t c (d + 1) e (!whole r.f1) true (by omega) (by omega) ht
          refine ⟨x, by simpa [wd] using e1, by simpa using e2, fun h => ?_⟩
          have := e3 (by simpa using h)
          unfold cntOld cntNew at this ⊢
          simp only [List.countP_cons, h1, h2, Bool.false_eq_true, if_true, if_false, Nat.add_zero]
          exact ⟨this.1, this.2.trans (by congr 1; omega)⟩
    · rw [h1, h2]
      by_cases c1 : r.f0 < 1
      · exact ⟨_, by rw [if_pos c1], by simp, by simp⟩
      · exact ⟨_, by rw [if_neg c1, if_pos (by omega)], by simp, by simp⟩
theorem p_place (a n : Int) (ha : -9223372036854775808 ≤ a ∧ a ≤ 9223372036854775807) : hunks_place.f a n = some (placeOk a n) := by
  unfold hunks_place.f placeOk
  by_cases h1 : n ≥ 0
  · by_cases h2 : a ≥ 0
    · rw [if_pos h1, if_pos h2]
      have hw : a ≤ 2147483647 → wrap64 (2147483647 - a) = 2147483647 - a := fun h => w64' (by omega) (by omega)
      by_cases h4 : a ≤ 2147483647
      · rw [hw h4]
        by_cases h3 : a > 0
        · rw [if_pos h3, if_pos h4]; congr 1; exact decide_eq_decide.mpr (by omega)
        · rw [if_neg h3]
          by_cases h5 : n = 0
          · rw [if_pos h5, if_pos h4]; congr 1; exact decide_eq_decide.mpr (by omega)
          · rw [if_neg h5]; congr 1; symm; exact decide_eq_false (by omega)
      · rw [if_neg h4, if_pos (by omega)]; congr 1; symm; exact decide_eq_false (by omega)
    · rw [if_pos h1, if_neg h2]; congr 1; symm; exact decide_eq_false (by omega)
  · rw [if_neg h1]; congr 1; symm; exact decide_eq_false (by omega)
structure Small (h : Hunk) : Prop where
  rows : h.f5.length ≤ 1048576
  texts : ∀ r ∈ h.f5, r.f1.size ≤ 1048576
  head : h.f4.size ≤ 1048576
  a : -9223372036854775808 ≤ h.f0 ∧ h.f0 ≤ 9223372036854775807
  b : -9223372036854775808 ≤ h.f2 ∧ h.f2 ≤ 9223372036854775807
theorem p_hunk (h : Hunk) (hs : Small h) : validF h = some (if hunkOk h = true then none else some 100) := by
  have h1 := hs.rows
  obtain ⟨x, e1, e2, e3⟩ := p_sides h.f5 0 0 false false false (by omega) (by omega) (fun r hr => by have := hs.texts r hr; omega)
  unfold validF hunks_Valid.f hunks_sides.f
  rw [if_pos (by omega)]
  rw [show (0 : Int) = ((0 : Nat) : Int) from rfl, e1, Option.map_some, Option.bind_some]
  simp only [e2]
  unfold hunkOk
  cases hr : rowsOk h.f5 false false false with
  | false => rw [if_neg (by simp)]; simp
  | true =>
    obtain ⟨e4, e5⟩ := e3 hr
    rw [Nat.zero_add] at e4 e5
    rw [if_pos rfl, e4, e5, p_place _ _ hs.a, p_place _ _ hs.b, contains_at]
    simp only [Option.bind_some, Bool.true_and]
    by_cases c1 : h.f1 = (cntOld h.f5 : Int)
    · by_cases c2 : h.f3 = (cntNew h.f5 : Int)
      · rw [if_pos c1.symm, if_pos c2.symm, decide_eq_true c1, decide_eq_true c2]
        cases placeOk h.f0 h.f1 with
        | false => simp
        | true =>
          cases placeOk h.f2 h.f3 with
          | false => simp
          | true =>
            unfold headOk
            by_cases c3 : h.f4.size ≤ 4096
            · rw [if_pos rfl, if_pos rfl, if_neg (by omega), decide_eq_true c3]
              cases decide (∃ j, j < h.f4.size ∧ bt h.f4 ((j : Nat) : Int) = 10) <;> simp
            · rw [if_pos rfl, if_pos rfl, if_pos (by omega), decide_eq_false c3]; simp
      · rw [if_pos c1.symm, if_neg (fun h => c2 h.symm), decide_eq_false c2]; simp
    · rw [if_neg (fun h => c1 h.symm), decide_eq_false c1]; simp
theorem r_old (r : Row) : selvageref10_old.f r.f0 r.f1 = some (isOld r) := by
  unfold selvageref10_old.f isOld
  by_cases h : r.f0 = 1
  · rw [if_pos h, h]; rfl
  · rw [if_neg h, show (r.f0 == 1) = false from beq_eq_false_iff_ne.mpr h, Bool.false_or]
theorem r_new (r : Row) : selvageref10_fresh.f r.f0 r.f1 = some (isNew r) := by
  unfold selvageref10_fresh.f isNew
  by_cases h : r.f0 = 1
  · rw [if_pos h, h]; rfl
  · rw [if_neg h, show (r.f0 == 1) = false from beq_eq_false_iff_ne.mpr h, Bool.false_or]
theorem rd_row (l : List Row) (i : Nat) : rd_T53 l ((i : Nat) : Int) = l.getD i z53 := by show l.getD ((i : Int)).toNat _ = _; simp
theorem r_counts_at (l : List Row) (hl : l.length ≤ 4000000000) (d : Nat) : ∀ (i a b : Nat), i + d = l.length → a ≤ i → b ≤ i → Ev (fun k => selvageref10_Counts.l0 k l a b (i : Int)) (((a + cntOld (l.drop i) : Nat) : Int), ((b + cntNew (l.drop i) : Nat) : Int)) := by
  induction d with
  | zero =>
    intro i a b h _ _
    rw [List.drop_of_length_le (by omega)]
    exact Ev.step (f := fun _ => some ((a : Int), (b : Int))) (fun k => by rw [selvageref10_Counts.l0, if_neg (by omega)]) (Ev.pure _)
  | succ d ih =>
    intro i a b h ha hb
    have hi : i < l.length := by omega
    rw [drop_by l z53 i hi]
    obtain ⟨r, hr⟩ : ∃ r, r = l.getD i z53 := ⟨_, rfl⟩
    have wi : wrap64 ((i : Int) + 1) = ((i + 1 : Nat) : Int) := w_of (i + 1) _ (by omega) (by omega)
    have wa : wrap64 ((a : Int) + 1) = ((a + 1 : Nat) : Int) := w_of (a + 1) _ (by omega) (by omega)
    have wb : wrap64 ((b : Int) + 1) = ((b + 1 : Nat) : Int) := w_of (b + 1) _ (by omega) (by omega)
    unfold cntOld cntNew
    rw [← hr, List.countP_cons, List.countP_cons]
    have hstep : ∀ k, selvageref10_Counts.l0 (k + 1) l a b (i : Int) = selvageref10_Counts.l0 k l ((a + (if isOld r = true then 1 else 0) : Nat) : Int) ((b + (if isNew r = true then 1 else 0) : Nat) : Int) ((i + 1 : Nat) : Int) := by
      intro k
      rw [selvageref10_Counts.l0, if_pos (by omega), if_pos (by omega), rd_row, ← hr, r_old, r_new, Option.bind_some, Option.bind_some, wi, wa, wb]
      cases isOld r <;> cases isNew r <;> simp
    have h2 := ih (i + 1) (a + (if isOld r = true then 1 else 0)) (b + (if isNew r = true then 1 else 0)) (by omega) (by split <;> omega) (by split <;> omega)
    unfold cntOld cntNew at h2
    rw [show a + ((l.drop (i + 1)).countP isOld + if isOld r = true then 1 else 0) = a + (if isOld r = true then 1 else 0) + (l.drop (i + 1)).countP isOld by omega,
      show b + ((l.drop (i + 1)).countP isNew + if isNew r = true then 1 else 0) = b + (if isNew r = true then 1 else 0) + (l.drop (i + 1)).countP isNew by omega]
    exact Ev.step hstep h2
theorem r_counts (l : List Row) (hl : l.length ≤ 4000000000) : Ev (fun k => selvageref10_Counts.f k l) ((cntOld l : Int), (cntNew l : Int)) := by
  have := r_counts_at l hl l.length 0 0 0 (by omega) (by omega) (by omega)
  rw [List.drop_zero, Nat.zero_add, Nat.zero_add] at this
  exact this
theorem r_part (k : Nat) (l : List Row) (e o ch : Bool) (i : Nat) (hi : (i : Int) + 1 ≤ 9223372036854775807) (r : Row) (hs : r.f1.size ≤ 4000000000) :
    selvageref10_rows.j1 (k + 1) l e o ch (i : Int) false r.f0 r.f1 = selvageref10_rows.l0 k l (e || (isOld r && !whole r.f1)) (o || (isNew r && !whole r.f1)) (ch || (r.f0 != 1)) ((i + 1 : Nat) : Int) := by
  rw [selvageref10_rows.j1, if_neg (by simp), r_whole_at _ hs, r_old, r_new, Option.bind_some, Option.bind_some, Option.bind_some, w_of (i + 1) _ (by omega) (by omega)]
  cases e <;> cases o <;> cases ch <;> cases whole r.f1 <;> cases isOld r <;> cases isNew r <;> simp
theorem r_rows_at (l : List Row) (hl : l.length ≤ 4000000000) (hs : ∀ r ∈ l, r.f1.size ≤ 4000000000) (d : Nat) : ∀ (i : Nat) (e o ch : Bool), i + d = l.length → Ev (fun k => selvageref10_rows.l0 k l e o ch (i : Int)) (rowsOk (l.drop i) e o ch) := by
  induction d with
  | zero =>
    intro i e o ch h
    rw [List.drop_of_length_le (by omega)]
    exact Ev.step (f := fun _ => some ch) (fun k => by rw [selvageref10_rows.l0, if_neg (by omega)]) (Ev.pure _)
  | succ d ih =>
    intro i e o ch h
    have hi : i < l.length := by omega
    rw [drop_by l z53 i hi]
    obtain ⟨r, hr⟩ : ∃ r, r = l.getD i z53 := ⟨_, rfl⟩
    have hm : r ∈ l := by rw [hr, List.getD_eq_getElem?_getD, List.getElem?_eq_getElem hi]; exact List.getElem_mem hi
    have hz := hs r hm
    rw [← hr, rowsOk]
    obtain ⟨K1, hK1⟩ := r_line r.f1 hz
    have hstep : ∀ k, K1 ≤ k → selvageref10_rows.l0 (k + 1) l e o ch (i : Int) = selvageref10_rows.j1 k l e o ch (i : Int) (!good r e o) r.f0 r.f1 := by
      intro k hk
      have hline : selvageref10_line.f k r.f1 = some (line r.f1) := hK1 k hk
      rw [selvageref10_rows.l0, if_pos (by omega), if_pos (by omega), rd_row, ← hr, r_old, r_new, hline]
      unfold good
      cases e <;> cases o <;> cases isOld r <;> cases isNew r <;> cases line r.f1 <;> simp
    cases hg : good r e o with
    | false =>
      refine ⟨K1 + 2, fun k hk => ?_⟩
      obtain ⟨k, rfl⟩ : ∃ j, k = j + 1 + 1 := ⟨k - 2, by omega⟩
      show selvageref10_rows.l0 (k + 1 + 1) l e o ch (i : Int) = some _
      rw [hstep _ (by omega), hg, if_neg (by simp), selvageref10_rows.j1, if_pos (by rfl)]
    | true =>
      obtain ⟨K2, hK2⟩ := ih (i + 1) (e || (isOld r && !whole r.f1)) (o || (isNew r && !whole r.f1)) (ch || (r.f0 != 1)) (by omega)
      refine ⟨K1 + K2 + 2, fun k hk => ?_⟩
      obtain ⟨k, rfl⟩ : ∃ j, k = j + 1 + 1 := ⟨k - 2, by omega⟩
      show selvageref10_rows.l0 (k + 1 + 1) l e o ch (i : Int) = some _
      rw [hstep _ (by omega), hg, if_pos rfl, Bool.not_true, r_part k l e o ch i (by omega) r hz]
      exact hK2 k (by omega)
theorem r_rows (l : List Row) (hl : l.length ≤ 4000000000) (hs : ∀ r ∈ l, r.f1.size ≤ 4000000000) : Ev (fun k => selvageref10_rows.f k l) (rowsOk l false false false) := by
  have := r_rows_at l hl hs l.length 0 false false false (by omega)
  rw [List.drop_zero] at this
  exact this
theorem r_start (a n : Int) (hn : 0 ≤ n ∧ n ≤ 4000000000) : selvageref10_start.f a n = some (placeOk a n) := by
  unfold selvageref10_start.f placeOk
  rw [w64' (i := 2147483647 - n) (by omega) (by omega)]
  by_cases h1 : n = 0
  · rw [if_pos h1]
    by_cases h2 : a ≥ 0
    · rw [if_pos h2]; congr 1; exact decide_eq_decide.mpr (by omega)
    · rw [if_neg h2]; congr 1; symm; exact decide_eq_false (by omega)
  · rw [if_neg h1]
    by_cases h2 : a ≥ 1
    · rw [if_pos h2]; congr 1; exact decide_eq_decide.mpr (by omega)
    · rw [if_neg h2]; congr 1; symm; exact decide_eq_false (by omega)
theorem r_head_at (h : Hunk) (hs : h.f4.size ≤ 4000000000) (d : Nat) : ∀ (j : Nat) (x : Bool), j + d = h.f4.size →
    Ev (fun k => selvageref10_Valid.l0 k x (j : Int) h.f0 h.f1 h.f2 h.f3 h.f4 h.f5) (if (x && !decide (∃ y, y < h.f4.size ∧ j ≤ y ∧ bt h.f4 ((y : Nat) : Int) = 10)) = true then 0 else 100) := by
  induction d with
  | zero =>
    intro j x hj
    have hd : decide (∃ y, y < h.f4.size ∧ j ≤ y ∧ bt h.f4 ((y : Nat) : Int) = 10) = false := decide_eq_false (fun ⟨y, h1, h2, _⟩ => by omega)
    rw [hd]
    refine Ev.step (f := fun _ => some (if x = true then 0 else 100)) (fun k => ?_) ?_
    · rw [selvageref10_Valid.l0, if_neg (by omega)]
      cases x <;> rfl
    · cases x <;> exact Ev.pure _
  | succ d ih =>
    intro j x hj
    have wj : wrap64 ((j : Int) + 1) = ((j + 1 : Nat) : Int) := w_of (j + 1) _ (by omega) (by omega)
    cases x with
    | false =>
      have := ih (j + 1) false (by omega)
      rw [Bool.false_and] at this ⊢
      refine Ev.step (fun k => ?_) this
      rw [selvageref10_Valid.l0, if_pos (by omega), if_neg (by simp), wj]
    | true =>
      have := ih (j + 1) (bt h.f4 (j : Int) != 10) (by omega)
      have he : (true && !decide (∃ y, y < h.f4.size ∧ j ≤ y ∧ bt h.f4 ((y : Nat) : Int) = 10)) = ((bt h.f4 (j : Int) != 10) && !decide (∃ y, y < h.f4.size ∧ j + 1 ≤ y ∧ bt h.f4 ((y : Nat) : Int) = 10)) := by
        rw [Bool.true_and]
        by_cases hb : bt h.f4 (j : Int) = 10
        · rw [show (bt h.f4 (j : Int) != 10) = false from bne_eq_false_iff_eq.mpr hb, decide_eq_true ⟨j, by omega, Nat.le_refl _, hb⟩]; rfl
        · rw [show (bt h.f4 (j : Int) != 10) = true from bne_iff_ne.mpr hb, Bool.true_and]
          congr 1
          apply decide_eq_decide.mpr
          constructor
          · rintro ⟨y, h1, h2, h3⟩
            rcases Nat.lt_or_ge j y with c | c
            · exact ⟨y, h1, c, h3⟩
            · exact absurd h3 (by rw [show y = j by omega]; exact hb)
          · rintro ⟨y, h1, h2, h3⟩
            exact ⟨y, h1, by omega, h3⟩
      rw [he]
      refine Ev.step (fun k => ?_) this
      rw [selvageref10_Valid.l0, if_pos (by omega), if_pos rfl, if_pos (by omega), wj]
theorem r_hunk (h : Hunk) (hs : Small h) : Ev (fun k => selvageref10_Valid.f k h.f0 h.f1 h.f2 h.f3 h.f4 h.f5) (if hunkOk h = true then 0 else 100) := by
  have h1 := hs.rows
  have h2 := hs.head
  have hc1 := cntOld_le h.f5
  have hc2 := cntNew_le h.f5
  have jump : ∀ (x : Bool) (v : Int), (if (x && !decide (∃ y, y < h.f4.size ∧ bt h.f4 ((y : Nat) : Int) = 10)) = true then 0 else 100) = v → Ev (fun k => selvageref10_Valid.j0 k x h.f0 h.f1 h.f2 h.f3 h.f4 h.f5) v := by
    intro x v hv
    have := r_head_at h (by omega) h.f4.size 0 x (by omega)
    rw [show decide (∃ y, y < h.f4.size ∧ 0 ≤ y ∧ bt h.f4 ((y : Nat) : Int) = 10) = decide (∃ y, y < h.f4.size ∧ bt h.f4 ((y : Nat) : Int) = 10) from decide_eq_decide.mpr ⟨fun ⟨y, a, _, b⟩ => ⟨y, a, b⟩, fun ⟨y, a, b⟩ => ⟨y, a, Nat.zero_le _, b⟩⟩, hv] at this
    exact Ev.step (fun k => by rw [selvageref10_Valid.j0]; rfl) this
  unfold selvageref10_Valid.f
  refine Ev.bind (r_counts h.f5 (by omega)) (Ev.bind (r_rows h.f5 (by omega) (fun r hr => by have := hs.texts r hr; omega)) ?_)
  unfold hunkOk
  cases rowsOk h.f5 false false false with
  | false =>
    refine Ev.same (fun k => if_neg (by simp)) (jump false _ ?_)
    simp
  | true =>
    refine Ev.same (fun k => if_pos rfl) ?_
    simp only []
    by_cases c1 : h.f1 = (cntOld h.f5 : Int)
    · refine Ev.same (fun k => if_pos c1) ?_
      by_cases c2 : h.f3 = (cntNew h.f5 : Int)
      · refine Ev.same (fun k => if_pos c2) ?_
        rw [← c1, ← c2, decide_eq_true rfl, decide_eq_true rfl, r_start h.f0 h.f1 (by omega), r_start h.f2 h.f3 (by omega)]
        simp only [Option.bind_some]
        cases placeOk h.f0 h.f1 with
        | false =>
          refine Ev.same (fun k => if_neg (by simp)) (jump false _ ?_)
          simp
        | true =>
          refine Ev.same (fun k => if_pos rfl) ?_
          cases placeOk h.f2 h.f3 with
          | false =>
            refine Ev.same (fun k => if_neg (by simp)) (jump false _ ?_)
            simp
          | true =>
            refine Ev.same (fun k => if_pos rfl) (jump _ _ ?_)
            unfold headOk
            simp only [Bool.true_and]
            rw [show decide ((h.f4.size : Int) ≤ 4096) = decide (h.f4.size ≤ 4096) from decide_eq_decide.mpr (by omega)]
      · refine Ev.same (fun k => if_neg c2) (jump false _ ?_)
        rw [decide_eq_false c2]; simp
    · refine Ev.same (fun k => if_neg c1) (jump false _ ?_)
      rw [decide_eq_false c1]; simp
end Go.Proofs.YtecjoofjiockkaaGreatDoor.Pure
namespace Go.Proofs.YtecjoofjiockkaaGreatDoor.Pure
open Go.RowKit Go.Proofs.YtecjoofjiockkaaGreatDoor.Pp Go.Proofs.YtecjoofjiockkaaGreatDoor.Ext Go.Proofs.YtecjoofjiockkaaGreatDoorW.PrintWords Go.Proofs.YtecjoofjiockkaaGreatDoorW.PrintLast Go.Proofs.YtecjoofjiockkaaGreatDoorW.PrintMore
set_option linter.unusedVariables false
set_option linter.unusedSimpArgs false
theorem of_wf {x : Int} (h : (Lit.int IntKind.i64 x).wf = true) : -9223372036854775808 ≤ x ∧ x ≤ 9223372036854775807 := by
  simp only [Lit.wf, Bool.and_eq_true, decide_eq_true_eq] at h
  exact ⟨h.1, h.2⟩
theorem mem_sum {α : Type} (f : α → Nat) : ∀ (l : List α), ∀ x ∈ l, f x ≤ (l.map f).sum
  | [], _, h => by cases h
  | y :: t, x, h => by
    rw [List.map_cons, List.sum_cons]
    rcases List.mem_cons.mp h with rfl | h
    · omega
    · have := mem_sum f t x h; omega
theorem len_sum {α : Type} (f : α → Nat) (c : Nat) (hf : ∀ x, c ≤ f x) : ∀ (l : List α), c * l.length ≤ (l.map f).sum
  | [] => by simp
  | y :: t => by
    have h1 := len_sum f c hf t
    have h2 := hf y
    rw [List.map_cons, List.sum_cons, List.length_cons, Nat.mul_add]; omega
def rowsSum (l : List Hunk) : Nat := (l.map fun h => h.f5.length).sum
theorem rowsSum_cons (h : Hunk) (t : List Hunk) : rowsSum (h :: t) = h.f5.length + rowsSum t := by unfold rowsSum; simp
def numE (e : Option Int) : Int := e.getD 0
theorem num_ev (e : Option Int) : Ev (fun _ => selvagelaw10_num.f e) (numE e) := Ev.pure _
theorem rd_hunk (l : List Hunk) (i : Nat) : rd_T29 l ((i : Nat) : Int) = l.getD i z29 := by show l.getD ((i : Int)).toNat _ = _; simp
theorem rd_mem (l : List Hunk) (i : Nat) (hi : i < l.length) : l.getD i z29 ∈ l := by
  rw [List.getD_eq_getElem?_getD, List.getElem?_eq_getElem hi]; exact List.getElem_mem hi
structure Hs (l : List Hunk) : Prop where
  all : ∀ h ∈ l, Small h
  count : l.length ≤ 1048576
  rows : rowsSum l ≤ 1048576
theorem wt_row (r : Row) : Ext.wt53 r = r.f1.size + 3 := by unfold Ext.wt53; omega
theorem wt_hunk (h : Hunk) : Ext.wt29 h = h.f4.size + (h.f5.map Ext.wt53).sum + 7 := by unfold Ext.wt29; omega
theorem rowsSum_le : ∀ l : List Hunk, rowsSum l ≤ (l.map Ext.wt29).sum
  | [] => by simp [rowsSum]
  | h :: t => by
    have h1 := rowsSum_le t
    have h2 := len_sum Ext.wt53 3 (fun r => by rw [wt_row]; omega) h.f5
    rw [rowsSum_cons, List.map_cons, List.sum_cons, wt_hunk]; omega
theorem small_of {h : Hunk} (hok : Ext.ok29 h) (hb : Ext.wt29 h ≤ 1048576) : Small h := by
  rw [wt_hunk] at hb
  have h2 := len_sum Ext.wt53 3 (fun r => by rw [wt_row]; omega) h.f5
  refine ⟨by omega, fun r hr => ?_, by omega, of_wf hok.1, of_wf hok.2.2.1⟩
  have := mem_sum Ext.wt53 h.f5 r hr
  rw [wt_row] at this; omega
theorem hs_of (l : List Hunk) (hok : ∀ z ∈ l, Ext.ok29 z) (hb : (l.map Ext.wt29).sum + 1 ≤ 1048576) : Hs l := by
  have h1 := len_sum Ext.wt29 7 (fun h => by rw [wt_hunk]; omega) l
  have h2 := rowsSum_le l
  exact ⟨fun h hm => small_of (hok h hm) (by have := mem_sum Ext.wt29 l h hm; omega), by omega, by omega⟩
theorem twin_loop (l : List Hunk) (hl : l.length ≤ 1000000000) (hs : ∀ h ∈ l, h.f5.length ≤ 1000000000) (d : Nat) : ∀ (i : Nat) (x : List Hunk), i + d = l.length → x.length = i → Ev (fun k => selvagelaw10_twins.l0 k l x (i : Int)) (x ++ l.drop i) := by
  induction d with
  | zero =>
    intro i x h _
    rw [List.drop_of_length_le (by omega), List.append_nil]
    exact Ev.step (f := fun _ => some x) (fun k => by rw [selvagelaw10_twins.l0, if_neg (by omega)]) (Ev.pure _)
  | succ d ih =>
    intro i x h hx
    have hi : i < l.length := by omega
    have w1 : wrap64 ((i : Int) + 1) = ((i + 1 : Nat) : Int) := w_add i 1 (by omega)
    have hm := hs _ (rd_mem l i hi)
    have hd := ih (i + 1) (x ++ [l.getD i z29]) (by omega) (by rw [List.length_append]; simp; omega)
    rw [drop_by l z29 i hi, show x ++ l.getD i z29 :: l.drop (i + 1) = (x ++ [l.getD i z29]) ++ l.drop (i + 1) by simp]
    refine Ev.step (fun k => ?_) hd
    rw [selvagelaw10_twins.l0, w1, if_pos (by omega), if_pos (by omega), rd_hunk]
    unfold selvagelaw10_twin.f
    rw [if_pos (by rw [List.length_nil]; omega), Option.bind_some, if_pos (by omega)]
    rfl
theorem twins_at (l : List Hunk) (hl : l.length ≤ 1000000000) (hs : ∀ h ∈ l, h.f5.length ≤ 1000000000) : Ev (fun k => selvagelaw10_twins.f k l) l := by
  have := twin_loop l hl hs l.length 0 [] (by omega) rfl
  rw [List.drop_zero, List.nil_append] at this
  exact this
theorem same_loop (h : Hunk) (hr : h.f5.length ≤ 4000000000) (d : Nat) : ∀ j : Nat, j + d = h.f5.length →
    Ev (fun k => selvagelaw10_same.l0 k (j : Int) h.f0 h.f1 h.f2 h.f3 h.f4 h.f5 h.f0 h.f1 h.f2 h.f3 h.f4 h.f5) true := by
  induction d with
  | zero =>
    intro j hj
    exact Ev.step (f := fun _ => some true) (fun k => by rw [selvagelaw10_same.l0, if_neg (by omega)]) (Ev.pure _)
  | succ d ih =>
    intro j hj
    have w1 : wrap64 ((j : Int) + 1) = ((j + 1 : Nat) : Int) := w_add j 1 (by omega)
    refine Ev.step (fun k => ?_) (ih (j + 1) (by omega))
    rw [selvagelaw10_same.l0, w1, if_pos (by omega), if_pos (by omega), if_pos (by omega), if_neg (by simp)]
theorem same_at (h : Hunk) (hr : h.f5.length ≤ 4000000000) : Ev (fun k => selvagelaw10_same.f k h.f0 h.f1 h.f2 h.f3 h.f4 h.f5 h.f0 h.f1 h.f2 h.f3 h.f4 h.f5) true := by
  unfold selvagelaw10_same.f
  refine Ev.same (fun k => by rw [if_pos rfl, if_pos rfl, if_pos rfl, if_pos rfl, if_pos rfl, bne_self_eq_false]) ?_
  exact Ev.step (fun k => by rw [selvagelaw10_same.j0, if_neg (by simp)]; rfl) (same_loop h hr _ 0 (Nat.zero_add _))
theorem sameAll_loop (l : List Hunk) (hl : l.length ≤ 4000000000) (hs : ∀ h ∈ l, h.f5.length ≤ 4000000000) (d : Nat) : ∀ i : Nat, i + d = l.length → Ev (fun k => selvagelaw10_sameAll.l0 k l l (i : Int)) true := by
  induction d with
  | zero =>
    intro i h
    exact Ev.step (f := fun _ => some true) (fun k => by rw [selvagelaw10_sameAll.l0, if_neg (by omega)]) (Ev.pure _)
  | succ d ih =>
    intro i h
    have hi : i < l.length := by omega
    have w1 : wrap64 ((i : Int) + 1) = ((i + 1 : Nat) : Int) := w_add i 1 (by omega)
    refine Ev.step (fun k => by rw [selvagelaw10_sameAll.l0, w1, if_pos (by omega), if_pos (by omega), if_pos (by omega), rd_hunk]) (Ev.bind (same_at _ (hs _ (rd_mem l i hi))) (Ev.same (fun k => if_pos rfl) (ih (i + 1) (by omega))))
theorem sameAll_at (l : List Hunk) (hl : l.length ≤ 4000000000) (hs : ∀ h ∈ l, h.f5.length ≤ 4000000000) : Ev (fun k => selvagelaw10_sameAll.f k l l) true :=
  Ev.same (fun k => by unfold selvagelaw10_sameAll.f; rw [if_pos rfl]; rfl) (sameAll_loop l hl hs l.length 0 (by omega))
theorem works_60 : selvagelaw10_works.f 60 = some true := by decide +kernel
theorem ev_works : Ev (fun k => selvagelaw10_works.f k) true := Ev.of (fun k => selvagelaw10_works.mono k) works_60
end Go.Proofs.YtecjoofjiockkaaGreatDoor.Pure
namespace Go.Proofs.YtecjoofjiockkaaGreatDoor.Pure
open Go.RowKit Go.Proofs.YtecjoofjiockkaaGreatDoor.Pp Go.Proofs.YtecjoofjiockkaaGreatDoor.Ext Go.Proofs.YtecjoofjiockkaaGreatDoorW.PrintWords Go.Proofs.YtecjoofjiockkaaGreatDoorW.PrintLast Go.Proofs.YtecjoofjiockkaaGreatDoorW.PrintMore
set_option linter.unusedVariables false
set_option linter.unusedSimpArgs false
def endOld (l : List Row) : Bool := l.any fun r => isOld r && !whole r.f1
def endNew (l : List Row) : Bool := l.any fun r => isNew r && !whole r.f1
theorem sides_end : ∀ (l : List Row) (c d : Int) (e f ch : Bool) (x : (Int × Bool) × (Int × Bool) × Bool), (∀ r ∈ l, r.f1.size ≤ 4000000000) → sidesF l c e d f ch = some x → rowsOk l e f ch = true →
    x.1.2 = (e || endOld l) ∧ x.2.1.2 = (f || endNew l)
  | [], c, d, e, f, ch, x, _, h, _ => by
    obtain rfl := Option.some.inj h
    simp [endOld, endNew]
  | r :: t, c, d, e, f, ch, x, hs, h, ok => by
    have hr := hs r (List.mem_cons_self)
    have ht : ∀ r ∈ t, r.f1.size ≤ 4000000000 := fun x hx => hs x (List.mem_cons_of_mem _ hx)
    unfold rowsOk at ok
    split at ok
    case isFalse => cases ok
    rename_i hg
    unfold good at hg
    simp only [Bool.and_eq_true, Bool.or_eq_true, Bool.not_eq_true'] at hg
    unfold sidesF at h
    rw [line_at _ hr] at h
    simp only [addIf, add_at _ _ _ hr, Option.bind_some] at h
    have eo : endOld (r :: t) = ((isOld r && !whole r.f1) || endOld t) := by simp [endOld]
    have en : endNew (r :: t) = ((isNew r && !whole r.f1) || endNew t) := by simp [endNew]
    rw [eo, en]
    rcases kinds r with ⟨hk, h1, h2⟩ | ⟨hk, h1, h2⟩ | ⟨hk, h1, h2⟩ | ⟨hk, h1, h2⟩
    · rw [h1, h2] at hg ok
      obtain ⟨⟨⟨_, hl⟩, he⟩, hf⟩ := hg
      obtain rfl : e = false := by simpa using he
      obtain rfl : f = false := by simpa using hf
      rw [hk, hl, if_neg (by omega), if_neg (by omega)] at h
      simp [hk] at h
      have := sides_end t _ _ _ _ _ x ht h (by simpa [hk] using ok)
      rw [h1, h2]
      simpa using this
    · rw [h1, h2] at hg ok
      obtain ⟨⟨⟨_, hl⟩, he⟩, hf⟩ := hg
      obtain rfl : e = false := by simpa using he
      rw [hk, hl, if_neg (by omega), if_neg (by omega)] at h
      simp [hk] at h
      have := sides_end t _ _ _ _ _ x ht h (by simpa [hk] using ok)
      rw [h1, h2]
      simpa using this
    · rw [h1, h2] at hg ok
      obtain ⟨⟨⟨_, hl⟩, he⟩, hf⟩ := hg
      obtain rfl : f = false := by simpa using hf
      rw [hk, hl, if_neg (by omega), if_neg (by omega)] at h
      simp [hk] at h
      have := sides_end t _ _ _ _ _ x ht h (by simpa [hk] using ok)
      rw [h1, h2]
      simpa using this
    · rw [h1, h2] at hg; simp at hg
def aheadI (a n : Int) : Int := if n > 0 then a - 1 else a
theorem ahead_at (a n : Int) (ha : -1000000000000 ≤ a ∧ a ≤ 1000000000000) : hunks_ahead.f a n = some (aheadI a n) := by
  unfold hunks_ahead.f aheadI
  split
  · rw [w64' (i := a - 1) (by omega) (by omega)]
  · rfl
theorem place_at (a n : Int) (ha : -1000000000000 ≤ a ∧ a ≤ 1000000000000) : selvageref10_Place.f a n = some (aheadI a n) := by
  unfold selvageref10_Place.f aheadI
  split
  · rw [w64' (i := a - 1) (by omega) (by omega)]
  · rfl
theorem hunk_rows {h : Hunk} (hk : hunkOk h = true) : rowsOk h.f5 false false false = true := by
  unfold hunkOk at hk
  simp only [Bool.and_eq_true] at hk
  exact hk.1.1.1.1.1
theorem hunk_places {h : Hunk} (hk : hunkOk h = true) : (0 ≤ h.f1 ∧ 0 ≤ h.f0 ∧ (0 < h.f0 ∨ h.f1 = 0) ∧ h.f0 ≤ 2147483647 ∧ h.f1 ≤ 2147483647 - h.f0) ∧ (0 ≤ h.f3 ∧ 0 ≤ h.f2 ∧ (0 < h.f2 ∨ h.f3 = 0) ∧ h.f2 ≤ 2147483647 ∧ h.f3 ≤ 2147483647 - h.f2) := by
  unfold hunkOk at hk
  simp only [Bool.and_eq_true] at hk
  exact ⟨of_decide_eq_true (show placeOk h.f0 h.f1 = true from hk.1.1.2), of_decide_eq_true (show placeOk h.f2 h.f3 = true from hk.1.2)⟩
theorem aheadI_in {a n : Int} (h : 0 ≤ n ∧ 0 ≤ a ∧ (0 < a ∨ n = 0) ∧ a ≤ 2147483647 ∧ n ≤ 2147483647 - a) : 0 ≤ aheadI a n ∧ aheadI a n ≤ 2147483647 ∧ aheadI a n + n ≤ 2147483647 := by
  unfold aheadI; split <;> omega
theorem order_nums {h0 h1 h2 h3 a b : Int} (p : 0 ≤ h1 ∧ 0 ≤ h0 ∧ (0 < h0 ∨ h1 = 0) ∧ h0 ≤ 2147483647 ∧ h1 ≤ 2147483647 - h0) (q : 0 ≤ h3 ∧ 0 ≤ h2 ∧ (0 < h2 ∨ h3 = 0) ∧ h2 ≤ 2147483647 ∧ h3 ≤ 2147483647 - h2) (ha : 0 ≤ a ∧ a ≤ 4294967296) (hb : 0 ≤ b ∧ b ≤ 4294967296) :
    wrap64 (aheadI h0 h1 - aheadI h2 h3) = aheadI h0 h1 - aheadI h2 h3 ∧ wrap64 (a - b) = a - b ∧ wrap64 (aheadI h0 h1 + h1) = aheadI h0 h1 + h1 ∧ wrap64 (aheadI h2 h3 + h3) = aheadI h2 h3 + h3 ∧ (-1000000000000 ≤ h0 ∧ h0 ≤ 1000000000000) ∧ (-1000000000000 ≤ h2 ∧ h2 ≤ 1000000000000) := by
  have h1 := aheadI_in p
  have h2 := aheadI_in q
  exact ⟨w64' (by omega) (by omega), w64' (by omega) (by omega), w64' (by omega) (by omega), w64' (by omega) (by omega), by omega, by omega⟩
attribute [local irreducible] aheadI
theorem sides_ok (h : Hunk) (hs : Small h) (hk : hunkOk h = true) : ∃ c d : Int, hunks_sides.f h.f0 h.f1 h.f2 h.f3 h.f4 h.f5 = some (c, endOld h.f5, d, endNew h.f5, true) := by
  have hz : ∀ r ∈ h.f5, r.f1.size ≤ 4000000000 := fun r hr => by have := hs.texts r hr; omega
  have hl := hs.rows
  obtain ⟨x, e1, e2, e3⟩ := p_sides h.f5 0 0 false false false (by omega) (by omega) hz
  obtain ⟨e4, e5⟩ := sides_end h.f5 _ _ _ _ _ x hz e1 (hunk_rows hk)
  unfold hunks_sides.f
  rw [if_pos (by omega), show (0 : Int) = ((0 : Nat) : Int) from rfl, e1]
  refine ⟨x.1.1, x.2.1.1, ?_⟩
  rw [Option.map_some, e4, e5, e2, hunk_rows hk, Bool.false_or, Bool.false_or]
def ordL : List Hunk → Int → Int → Bool → Bool → Bool
  | [], _, _, _, _ => true
  | h :: t, a, b, e, o =>
    if aheadI h.f0 h.f1 < a then false else if aheadI h.f2 h.f3 < b then false
    else if aheadI h.f0 h.f1 - aheadI h.f2 h.f3 = a - b then
      (if e = true ∧ h.f1 > 0 then false else if o = true ∧ h.f3 > 0 then false
       else ordL t (aheadI h.f0 h.f1 + h.f1) (aheadI h.f2 h.f3 + h.f3) (e || endOld h.f5) (o || endNew h.f5))
    else false
def orderS (l : List Hunk) : Option Int := if l.all hunkOk = true then (if ordL l 0 0 false false = true then none else some 112) else some 100
theorem p_order_step (k : Nat) (l : List Hunk) (i : Nat) (hi : i < l.length) (hl : l.length ≤ 1000000000) (h : Hunk) (hh : h = l.getD i z29) (hs : Small h) (hk : hunkOk h = true) (a b : Int) (ha : 0 ≤ a ∧ a ≤ 4294967296) (hb : 0 ≤ b ∧ b ≤ 4294967296) (e o : Bool) :
    hunks_Order.l1 (k + 1) a b e o l (l.length : Int) (i : Int) = (if aheadI h.f0 h.f1 < a then some (some 112) else if aheadI h.f2 h.f3 < b then some (some 112)
      else if aheadI h.f0 h.f1 - aheadI h.f2 h.f3 = a - b then (if e = true ∧ h.f1 > 0 then some (some 112) else if o = true ∧ h.f3 > 0 then some (some 112)
        else hunks_Order.l1 k (aheadI h.f0 h.f1 + h.f1) (aheadI h.f2 h.f3 + h.f3) (e || endOld h.f5) (o || endNew h.f5) l (l.length : Int) ((i + 1 : Nat) : Int)) else some (some 112)) := by
  have c0 : (0 : Int) ≤ (i : Int) := by omega
  have c1 : (i : Int) < (l.length : Int) := by omega
  have w1 : wrap64 ((i : Int) + 1) = ((i + 1 : Nat) : Int) := w_add i 1 (by omega)
  obtain ⟨w2, w3, w4, w5, b1, b2⟩ := order_nums (hunk_places hk).1 (hunk_places hk).2 ha hb
  obtain ⟨c, d, hsd⟩ := sides_ok h hs hk
  rw [hunks_Order.l1, if_pos c1, if_pos c0, if_pos c1, rd_hunk, ← hh, ahead_at _ _ b1, Option.bind_some, ahead_at _ _ b2, Option.bind_some, w1, w2, w3, w4, w5, hsd]
  simp only [Option.bind_some]
  cases e <;> cases o <;> simp
theorem p_order (l : List Hunk) (hl : l.length ≤ 1000000000) (ok : ∀ h ∈ l, Small h ∧ hunkOk h = true) (d : Nat) : ∀ (i : Nat) (a b : Int) (e o : Bool), i + d = l.length → (0 ≤ a ∧ a ≤ 4294967296) → (0 ≤ b ∧ b ≤ 4294967296) →
    Ev (fun k => hunks_Order.l1 k a b e o l (l.length : Int) (i : Int)) (if ordL (l.drop i) a b e o = true then none else some 112) := by
  induction d with
  | zero =>
    intro i a b e o h _ _
    rw [List.drop_of_length_le (by omega)]
    exact Ev.step (f := fun _ => some none) (fun k => by rw [hunks_Order.l1, if_neg (by omega)]) (Ev.pure _)
  | succ d ih =>
    intro i a b e o h ha hb
    have hi : i < l.length := by omega
    obtain ⟨x, hx⟩ : ∃ x, x = l.getD i z29 := ⟨_, rfl⟩
    obtain ⟨hs, hk⟩ := ok x (by rw [hx]; exact rd_mem l i hi)
    have hp := hunk_places hk
    have h1 := aheadI_in hp.1
    have h2 := aheadI_in hp.2
    rw [drop_by l z29 i hi, ← hx]
    refine Ev.step (fun k => p_order_step k l i hi hl x hx hs hk a b ha hb e o) ?_
    unfold ordL
    by_cases c1 : aheadI x.f0 x.f1 < a
    · simp only [if_pos c1]; exact Ev.pure _
    by_cases c2 : aheadI x.f2 x.f3 < b
    · simp only [if_neg c1, if_pos c2]; exact Ev.pure _
    by_cases c3 : aheadI x.f0 x.f1 - aheadI x.f2 x.f3 = a - b
    · by_cases c4 : e = true ∧ x.f1 > 0
      · simp only [if_neg c1, if_neg c2, if_pos c3, if_pos c4]; exact Ev.pure _
      by_cases c5 : o = true ∧ x.f3 > 0
      · simp only [if_neg c1, if_neg c2, if_pos c3, if_neg c4, if_pos c5]; exact Ev.pure _
      simp only [if_neg c1, if_neg c2, if_pos c3, if_neg c4, if_neg c5]
      exact ih (i + 1) _ _ _ _ (by omega) (by omega) (by omega)
    · simp only [if_neg c1, if_neg c2, if_neg c3]; exact Ev.pure _
theorem all_drop (l : List Hunk) (i : Nat) (hi : i < l.length) : (l.drop i).all hunkOk = (hunkOk (l.getD i z29) && (l.drop (i + 1)).all hunkOk) := by
  rw [drop_by l z29 i hi, List.all_cons]
theorem p_valids (l : List Hunk) (hl : l.length ≤ 1000000000) (hs : ∀ h ∈ l, Small h) (v : Option Int) (hv : l.all hunkOk = true → Ev (fun k => hunks_Order.l1 k 0 0 false false l (l.length : Int) 0) v) (d : Nat) : ∀ i : Nat, i + d = l.length → (∀ j, j < i → hunkOk (l.getD j z29) = true) →
    Ev (fun k => hunks_Order.l0 k l l (l.length : Int) (i : Int)) (if (l.drop i).all hunkOk = true then v else some 100) := by
  induction d with
  | zero =>
    intro i h hj
    rw [List.drop_of_length_le (by omega), if_pos (by rfl)]
    refine Ev.step (fun k => by rw [hunks_Order.l0, if_neg (by omega)]) (hv (List.all_eq_true.mpr fun x hx => ?_))
    obtain ⟨j, hj1, rfl⟩ := List.mem_iff_getElem.mp hx
    have := hj j (by omega)
    rwa [List.getD_eq_getElem?_getD, List.getElem?_eq_getElem hj1] at this
  | succ d ih =>
    intro i h hj
    have hi : i < l.length := by omega
    have w1 : wrap64 ((i : Int) + 1) = ((i + 1 : Nat) : Int) := w_add i 1 (by omega)
    have hp := p_hunk _ (hs _ (rd_mem l i hi))
    unfold validF at hp
    rw [all_drop l i hi]
    cases hk : hunkOk (l.getD i z29) with
    | true =>
      rw [hk] at hp
      rw [Bool.true_and]
      refine Ev.step (fun k => by rw [hunks_Order.l0, if_pos (by omega), if_pos (by omega), if_pos (by omega), rd_hunk, hp]; simp [w1]) (ih (i + 1) (by omega) (fun j hj' => ?_))
      rcases Nat.lt_or_ge j i with c | c
      · exact hj j c
      · rw [show j = i by omega]; exact hk
    | false =>
      rw [hk, if_neg (by simp)] at hp
      rw [Bool.false_and, if_neg (by simp)]
      exact Ev.step (f := fun _ => some (some 100)) (fun k => by rw [hunks_Order.l0, if_pos (by omega), if_pos (by omega), if_pos (by omega), rd_hunk, hp, Option.bind_some, if_neg (by simp)]; rfl) (Ev.pure _)
theorem order_at (l : List Hunk) (hl : Hs l) : Ev (fun k => hunks_Order.f k l) (orderS l) := by
  have h1 := hl.count
  refine p_valids l (by omega) hl.all _ (fun ha => ?_) l.length 0 (by omega) (fun j hj => by omega)
  have := p_order l (by omega) (fun h hm => ⟨hl.all h hm, List.all_eq_true.mp ha h hm⟩) l.length 0 0 0 false false (by omega) (by omega) (by omega)
  rw [List.drop_zero] at this
  exact this
theorem r_partial_at (h : Hunk) (hs : Small h) (d : Nat) : ∀ (i : Nat) (e o : Bool), i + d = h.f5.length → Ev (fun k => selvageref10_partial.l0 k e o (i : Int) h.f0 h.f1 h.f2 h.f3 h.f4 h.f5) ((e || endOld (h.f5.drop i)), (o || endNew (h.f5.drop i))) := by
  have hr := hs.rows
  induction d with
  | zero =>
    intro i e o hi
    rw [List.drop_of_length_le (by omega)]
    refine Ev.step (f := fun _ => some (e, o)) (fun k => by rw [selvageref10_partial.l0, if_neg (by omega)]) ?_
    unfold endOld endNew
    rw [List.any_nil, List.any_nil, Bool.or_false, Bool.or_false]
    exact Ev.pure _
  | succ d ih =>
    intro i e o hi
    have hlt : i < h.f5.length := by omega
    obtain ⟨r, hre⟩ : ∃ r, r = h.f5.getD i z53 := ⟨_, rfl⟩
    have hm : r ∈ h.f5 := by rw [hre, List.getD_eq_getElem?_getD, List.getElem?_eq_getElem hlt]; exact List.getElem_mem hlt
    have hz : r.f1.size ≤ 4000000000 := by have := hs.texts r hm; omega
    have w1 : wrap64 ((i : Int) + 1) = ((i + 1 : Nat) : Int) := w_add i 1 (by omega)
    have h2 := ih (i + 1) (e || (isOld r && !whole r.f1)) (o || (isNew r && !whole r.f1)) (by omega)
    have ee : (e || endOld (h.f5.drop i)) = ((e || (isOld r && !whole r.f1)) || endOld (h.f5.drop (i + 1))) := by rw [drop_by h.f5 z53 i hlt, ← hre]; unfold endOld; rw [List.any_cons, Bool.or_assoc]
    have eo : (o || endNew (h.f5.drop i)) = ((o || (isNew r && !whole r.f1)) || endNew (h.f5.drop (i + 1))) := by rw [drop_by h.f5 z53 i hlt, ← hre]; unfold endNew; rw [List.any_cons, Bool.or_assoc]
    rw [ee, eo]
    refine Ev.step (fun k => ?_) h2
    rw [selvageref10_partial.l0, if_pos (by omega), if_pos (by omega), rd_row, ← hre, r_whole_at _ hz, Option.bind_some, r_old, r_new, w1]
    simp only [Option.bind_some]
    cases e <;> cases o <;> cases whole r.f1 <;> simp
theorem r_partial (h : Hunk) (hs : Small h) : Ev (fun k => selvageref10_partial.f k h.f0 h.f1 h.f2 h.f3 h.f4 h.f5) (endOld h.f5, endNew h.f5) := by
  have := r_partial_at h hs h.f5.length 0 false false (by omega)
  rw [List.drop_zero, Bool.false_or, Bool.false_or] at this
  exact this
theorem r_order_step (k : Nat) (l : List Hunk) (i : Nat) (hi : i < l.length) (hl : l.length ≤ 1000000000) (h : Hunk) (hh : h = l.getD i z29) (hk : hunkOk h = true) (a b : Int) (ha : 0 ≤ a ∧ a ≤ 4294967296) (hb : 0 ≤ b ∧ b ≤ 4294967296) (e o : Bool) :
    selvageref10_Order.l1 (k + 1) l a b e o (i : Int) = (if aheadI h.f0 h.f1 < a then some 112 else if aheadI h.f2 h.f3 < b then some 112
      else if aheadI h.f0 h.f1 - aheadI h.f2 h.f3 = a - b then (if e = true ∧ h.f1 > 0 then some 112 else if o = true ∧ h.f3 > 0 then some 112
        else (selvageref10_partial.f k h.f0 h.f1 h.f2 h.f3 h.f4 h.f5).bind fun bt => selvageref10_Order.l1 k l (aheadI h.f0 h.f1 + h.f1) (aheadI h.f2 h.f3 + h.f3) (e || bt.1) (o || bt.2) ((i + 1 : Nat) : Int)) else some 112) := by
  have c0 : (0 : Int) ≤ (i : Int) := by omega
  have c1 : (i : Int) < (l.length : Int) := by omega
  have w1 : wrap64 ((i : Int) + 1) = ((i + 1 : Nat) : Int) := w_add i 1 (by omega)
  obtain ⟨w2, w3, w4, w5, b1, b2⟩ := order_nums (hunk_places hk).1 (hunk_places hk).2 ha hb
  rw [selvageref10_Order.l1, if_pos c1, if_pos c0, rd_hunk, ← hh, place_at _ _ b1, Option.bind_some, place_at _ _ b2, Option.bind_some, w1, w2, w3, w4, w5]
  cases e <;> cases o <;> simp
theorem r_order1 (l : List Hunk) (hl : l.length ≤ 1000000000) (ok : ∀ h ∈ l, Small h ∧ hunkOk h = true) (d : Nat) : ∀ (i : Nat) (a b : Int) (e o : Bool), i + d = l.length → (0 ≤ a ∧ a ≤ 4294967296) → (0 ≤ b ∧ b ≤ 4294967296) →
    Ev (fun k => selvageref10_Order.l1 k l a b e o (i : Int)) (if ordL (l.drop i) a b e o = true then 0 else 112) := by
  induction d with
  | zero =>
    intro i a b e o h _ _
    rw [List.drop_of_length_le (by omega)]
    exact Ev.step (f := fun _ => some 0) (fun k => by rw [selvageref10_Order.l1, if_neg (by omega)]) (Ev.pure _)
  | succ d ih =>
    intro i a b e o h ha hb
    have hi : i < l.length := by omega
    obtain ⟨x, hx⟩ : ∃ x, x = l.getD i z29 := ⟨_, rfl⟩
    obtain ⟨hs, hk⟩ := ok x (by rw [hx]; exact rd_mem l i hi)
    have hp := hunk_places hk
    have h1 := aheadI_in hp.1
    have h2 := aheadI_in hp.2
    rw [drop_by l z29 i hi, ← hx]
    refine Ev.step (fun k => r_order_step k l i hi hl x hx hk a b ha hb e o) ?_
    unfold ordL
    by_cases c1 : aheadI x.f0 x.f1 < a
    · simp only [if_pos c1]; exact Ev.pure _
    by_cases c2 : aheadI x.f2 x.f3 < b
    · simp only [if_neg c1, if_pos c2]; exact Ev.pure _
    by_cases c3 : aheadI x.f0 x.f1 - aheadI x.f2 x.f3 = a - b
    · by_cases c4 : e = true ∧ x.f1 > 0
      · simp only [if_neg c1, if_neg c2, if_pos c3, if_pos c4]; exact Ev.pure _
      by_cases c5 : o = true ∧ x.f3 > 0
      · simp only [if_neg c1, if_neg c2, if_pos c3, if_neg c4, if_pos c5]; exact Ev.pure _
      simp only [if_neg c1, if_neg c2, if_pos c3, if_neg c4, if_neg c5]
      exact Ev.bind (r_partial x hs) (ih (i + 1) _ _ _ _ (by omega) (by omega) (by omega))
    · simp only [if_neg c1, if_neg c2, if_neg c3]; exact Ev.pure _
theorem r_valids (l : List Hunk) (hl : l.length ≤ 1000000000) (hs : ∀ h ∈ l, Small h) (v : Int) (hv : l.all hunkOk = true → Ev (fun k => selvageref10_Order.l1 k l 0 0 false false 0) v) (d : Nat) : ∀ i : Nat, i + d = l.length → (∀ j, j < i → hunkOk (l.getD j z29) = true) →
    Ev (fun k => selvageref10_Order.l0 k l (i : Int)) (if (l.drop i).all hunkOk = true then v else 100) := by
  induction d with
  | zero =>
    intro i h hj
    rw [List.drop_of_length_le (by omega), if_pos (by rfl)]
    refine Ev.step (fun k => by rw [selvageref10_Order.l0, if_neg (by omega)]) (hv (List.all_eq_true.mpr fun x hx => ?_))
    obtain ⟨j, hj1, rfl⟩ := List.mem_iff_getElem.mp hx
    have := hj j (by omega)
    rwa [List.getD_eq_getElem?_getD, List.getElem?_eq_getElem hj1] at this
  | succ d ih =>
    intro i h hj
    have hi : i < l.length := by omega
    have w1 : wrap64 ((i : Int) + 1) = ((i + 1 : Nat) : Int) := w_add i 1 (by omega)
    have hp := r_hunk _ (hs _ (rd_mem l i hi))
    rw [all_drop l i hi]
    refine Ev.step (fun k => by rw [selvageref10_Order.l0, if_pos (by omega), if_pos (by omega), rd_hunk, w1]) (Ev.bind hp ?_)
    cases hk : hunkOk (l.getD i z29) with
    | true =>
      rw [Bool.true_and]
      refine Ev.same (fun k => if_pos (by simp)) (ih (i + 1) (by omega) (fun j hj' => ?_))
      rcases Nat.lt_or_ge j i with c | c
      · exact hj j c
      · rw [show j = i by omega]; exact hk
    | false =>
      rw [Bool.false_and]
      exact Ev.same (fun k => if_neg (by simp)) (Ev.pure _)
theorem r_order_at (l : List Hunk) (hl : Hs l) : Ev (fun k => selvageref10_Order.f k l) (numE (orderS l)) := by
  have h1 := hl.count
  have h2 : numE (orderS l) = (if (l.drop 0).all hunkOk = true then (if ordL l 0 0 false false = true then 0 else 112) else 100) := by
    unfold orderS numE
    rw [List.drop_zero]
    split
    · split <;> rfl
    · rfl
  rw [h2]
  refine r_valids l (by omega) hl.all _ (fun ha => ?_) l.length 0 (by omega) (fun j hj => by omega)
  have := r_order1 l (by omega) (fun h hm => ⟨hl.all h hm, List.all_eq_true.mp ha h hm⟩) l.length 0 0 0 false false (by omega) (by omega) (by omega)
  rw [List.drop_zero] at this
  exact this
end Go.Proofs.YtecjoofjiockkaaGreatDoor.Pure
