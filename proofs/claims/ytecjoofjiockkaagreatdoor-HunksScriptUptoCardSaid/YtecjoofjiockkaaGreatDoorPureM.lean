/-
 Lines, in plain Lean: what both sides take for a line, for a list of lines.
-/
import Derived.Test.YtecjoofjiockkaaGreatDoorEPure
import Derived.Test.YtecjoofjiockkaaGreatDoorPp11
import Derived.Test.YtecjoofjiockkaaGreatDoorPp3
import Derived.Test.YtecjoofjiockkaaGreatDoorPp21
import Derived.Test.YtecjoofjiockkaaGreatDoorPp4
import Derived.Lib.IndexLaws
import Derived.Test.YtecjoofjiockkaaGreatDoorEValid
import Derived.Test.YtecjoofjiockkaaGreatDoorESides
import Derived.Test.YtecjoofjiockkaaGreatDoorPp6
import Derived.Test.YtecjoofjiockkaaGreatDoorEOpen
import Derived.Test.YtecjoofjiockkaaGreatDoorPp7
import Derived.Test.YtecjoofjiockkaaGreatDoorPp18
import Derived.Test.YtecjoofjiockkaaGreatDoorPp8
import Derived.Test.YtecjoofjiockkaaGreatDoorPp9
import Derived.Test.YtecjoofjiockkaaGreatDoorPp12
import Derived.Test.YtecjoofjiockkaaGreatDoorPp13
import Derived.Test.YtecjoofjiockkaaGreatDoorEScript
import Derived.Test.YtecjoofjiockkaaGreatDoorEPairs
import Derived.Test.YtecjoofjiockkaaGreatDoorPp22
import Derived.Test.YtecjoofjiockkaaGreatDoorEReverse
import Derived.Test.YtecjoofjiockkaaGreatDoorPp32
import Derived.Test.YtecjoofjiockkaaGreatDoorPp26
import Derived.Test.YtecjoofjiockkaaGreatDoorPp31
import Derived.Test.YtecjoofjiockkaaGreatDoorPp33
set_option linter.unusedVariables false
set_option linter.unusedSimpArgs false
namespace Go.Proofs.YtecjoofjiockkaaGreatDoor.Pure
open Go.RowKit Go.Proofs.YtecjoofjiockkaaGreatDoor.Pp Go.Proofs.YtecjoofjiockkaaGreatDoor.Ext Go.Proofs.YtecjoofjiockkaaGreatDoorW.PrintWords Go.Proofs.YtecjoofjiockkaaGreatDoorW.PrintLast Go.Proofs.YtecjoofjiockkaaGreatDoorW.PrintMore
theorem Ev.pure {α : Type} (v : α) : Ev (fun _ => some v) v := ⟨0, fun _ _ => rfl⟩
theorem Ev.same {α : Type} {F G : Nat → Option α} {v : α} (h : ∀ k, F k = G k) (hg : Ev G v) : Ev F v := Ev.congr h hg
theorem data_len (s : ByteArray) : s.data.toList.length = s.size := by rw [Array.length_toList]; rfl
theorem w_of (n : Nat) (m : Int) (h : m = (n : Int)) (hn : n ≤ 9223372036854775807) : wrap64 m = (n : Int) := by rw [h]; exact w64' (by omega) (by omega)
theorem bt_at (s : ByteArray) (j : Nat) (h : j < s.size) : (bt s (j : Int) = 10) ↔ s.data.toList[j]? = some 10 := by
 have hl : j < s.data.toList.length := by rw [data_len]; exact h
 rw [bt_list, List.getD_eq_getElem?_getD, List.getElem?_eq_getElem hl, Option.getD_some]
 constructor
 ·intro e; congr 1; exact UInt8.toNat_inj.mp (by have : (10 : UInt8).toNat = 10 := rfl; omega)
 ·intro e; injection e with e; rw [e]; rfl
theorem ix (s : ByteArray) : (Lib.indexByte s.data.toList 10 = -1 ∧ ∀ j : Nat, j < s.size → bt s (j : Int) ≠ 10) ∨
  (∃ o : Nat, o < s.size ∧ Lib.indexByte s.data.toList 10 = (o : Int) ∧ bt s (o : Int) = 10 ∧ ∀ j : Nat, j < o → bt s (j : Int) ≠ 10) := by
 have hge := Lib.indexByte_ge s.data.toList 10
 rcases (by omega : Lib.indexByte s.data.toList 10 = -1 ∨ 0 ≤ Lib.indexByte s.data.toList 10) with h | h
 ·exact .inl ⟨h, fun j hj e => Lib.indexByte_none h j ((bt_at s j hj).mp e)⟩
 ·obtain ⟨o, ho⟩ : ∃ o : Nat, Lib.indexByte s.data.toList 10 = o := ⟨_, (Int.toNat_of_nonneg h).symm⟩
  obtain ⟨h1, h2⟩ := Lib.indexByte_some ho
  have hlt : o < s.size := by
   rw [← data_len]
   exact (List.getElem?_eq_some_iff.mp h1).1
  exact .inr ⟨o, hlt, ho, (bt_at s o hlt).mpr h1, fun j hj e => h2 j hj ((bt_at s j (by omega)).mp e)⟩
def whole (s : ByteArray) : Bool := decide (0 < s.size ∧ bt s ((s.size : Int) - 1) = 10)
def body (s : ByteArray) : Bool := decide (∀ j, j < s.size - 1 → bt s ((j : Nat) : Int) ≠ 10)
def line (s : ByteArray) : Bool := decide (0 < s.size) && body s
theorem nil_size (s : ByteArray) : s.toList = ([] : List UInt8) ↔ ¬ 0 < s.size := by rw [toList_nil]; omega
theorem qH {α : Type} (l : List α) (d : α) (i : Nat) (h : i < l.length) : l.drop i = l.getD i d :: l.drop (i + 1) := by
 rw [List.getD_eq_getElem?_getD, List.getElem?_eq_getElem h]
 exact List.drop_eq_getElem_cons h
theorem last_byte (s : ByteArray) (n : Nat) (hn : s.size = n + 1) : ∃ b : UInt8, s.data.toList = s.data.toList.take n ++ [b] ∧ bt s (n : Int) = (b.toNat : Int) := by
 have hl : n < s.data.toList.length := by rw [data_len]; omega
 refine ⟨s.data.toList[n], ?_, ?_⟩
 ·have h1 := List.take_append_drop n s.data.toList
  rw [List.drop_eq_getElem_cons hl, List.drop_of_length_le (by rw [data_len]; omega)] at h1
  exact h1.symm
 ·rw [bt_list, List.getD_eq_getElem?_getD, List.getElem?_eq_getElem hl]; rfl
theorem suffix_at (s : ByteArray) (hs : s.size ≤ 4000000000) : stringslite_HasSuffix.f s (⟨#[10]⟩ : ByteArray) = some (whole s) := by
 unfold stringslite_HasSuffix.f
 have h1 : (⟨#[10]⟩ : ByteArray).size = 1 := rfl
 rw [h1]
 by_cases h : 0 < s.size
 ·obtain ⟨n, hn⟩ : ∃ n, s.size = n + 1 := ⟨s.size - 1, by omega⟩
  have w : wrap64 ((s.size : Int) - ((1 : Nat) : Int)) = (n : Int) := by rw [w64' (by omega) (by omega)]; omega
  obtain ⟨b, hb, hv⟩ := last_byte s n hn
  have hsuf : (s.extract n s.size).toList = [b] := by
   rw [Lib.toList_data, Lib.extract_data, hb, List.drop_left' (by rw [List.length_take, data_len]; omega), hn, show n + 1 - n = 1 by omega]; rfl
  have h10 : (⟨#[10]⟩ : ByteArray).toList = ([10] : List UInt8) := by rw [Lib.toList_data]
  rw [if_pos (by omega), w, if_pos (by omega), if_pos (by omega), Int.toNat_natCast, hsuf, h10]
  unfold whole
  rw [show (s.size : Int) - 1 = (n : Int) by omega, hv]
  congr 1
  by_cases e : b = 10
  ·rw [e, decide_eq_true ⟨h, by rfl⟩]; rfl
  ·have hne : ¬ (b.toNat : Int) = 10 := fun x => e (UInt8.toNat_inj.mp (by have : (10 : UInt8).toNat = 10 := rfl; omega))
   rw [decide_eq_false (fun x => hne x.2)]
   simp [e]
 ·rw [if_neg (by omega)]
  unfold whole
  rw [decide_eq_false (fun x => h x.1)]
theorem whole_at (s : ByteArray) (hs : s.size ≤ 4000000000) : lines_Whole.f s = some (whole s) := by
 unfold lines_Whole.f strings_HasSuffix.f
 rw [suffix_at s hs]; rfl
theorem r_whole_at (s : ByteArray) (hs : s.size ≤ 4000000000) : selvageref01_Whole.f s = some (whole s) := by
 unfold selvageref01_Whole.f whole
 by_cases h : 0 < s.size
 ·rw [if_pos (by omega), w64' (by omega) (by omega), if_pos (by omega), if_pos (by omega)]
  congr 1
  by_cases e : bt s ((s.size : Int) - 1) = 10
  ·rw [e, decide_eq_true ⟨h, rfl⟩]; rfl
  ·rw [decide_eq_false (fun x => e x.2)]
   exact beq_eq_false_iff_ne.mpr e
 ·rw [if_neg (by omega), decide_eq_false (fun x => h x.1)]
def bare (s : ByteArray) : ByteArray := if whole s = true then s.extract 0 (s.size - 1) else s
theorem bare_at (s : ByteArray) (hs : s.size ≤ 4000000000) : lines_Bare.f s = some (bare s) := by
 unfold lines_Bare.f strings_TrimSuffix.f stringslite_TrimSuffix.f bare
 rw [suffix_at s hs, Option.bind_some]
 have h1 : (⟨#[10]⟩ : ByteArray).size = 1 := rfl
 rw [h1]
 cases hw : whole s with
 | false => rw [if_neg (by simp), if_neg (by simp)]; rfl
 | true =>
  have h0 := (of_decide_eq_true hw).1
  rw [if_pos rfl, if_pos rfl, w64' (by omega) (by omega), if_pos (by omega), if_pos (by omega), show ((s.size : Int) - ((1 : Nat) : Int)).toNat = s.size - 1 by omega]
  rfl
theorem contains_at (s : ByteArray) : strings_Contains.f s (⟨#[10]⟩ : ByteArray) = some (decide (∃ j, j < s.size ∧ bt s ((j : Nat) : Int) = 10)) := by
 show some (decide (0 ≤ Lib.indexByte s.data.toList 10)) = _
 congr 1
 rcases ix s with ⟨hx, hn⟩ | ⟨o, ho, hx, hb, hn⟩
 ·rw [hx, decide_eq_false (by omega)]
  symm
  exact decide_eq_false (fun ⟨j, h1, h2⟩ => hn j h1 h2)
 ·rw [hx, decide_eq_true (by omega)]
  symm
  exact decide_eq_true ⟨o, ho, hb⟩
theorem bare_body (s : ByteArray) (h0 : 0 < s.size) : (!decide (∃ j, j < (bare s).size ∧ bt (bare s) ((j : Nat) : Int) = 10)) = body s := by
 unfold bare body
 cases hw : whole s with
 | true =>
  rw [if_pos rfl]
  have hz : (s.extract 0 (s.size - 1)).size = s.size - 1 := by rw [ByteArray.size_extract]; omega
  rw [← decide_not]
  congr 1
  apply propext
  constructor
  ·intro h j hj e
   exact h ⟨j, by rw [hz]; exact hj, by rw [bt_extract s 0 (s.size - 1) j (by omega), Nat.zero_add]; exact e⟩
  ·rintro h ⟨j, hj, e⟩
   rw [hz] at hj
   rw [bt_extract s 0 (s.size - 1) j (by omega), Nat.zero_add] at e
   exact h j hj e
 | false =>
  rw [if_neg (by simp), ← decide_not]
  have hlast : bt s ((s.size : Int) - 1) ≠ 10 := fun e => (of_decide_eq_false hw) ⟨h0, e⟩
  congr 1
  apply propext
  constructor
  ·intro h j hj e
   exact h ⟨j, by omega, e⟩
  ·rintro h ⟨j, hj, e⟩
   by_cases hj2 : j < s.size - 1
   ·exact h j hj2 e
   ·exact hlast (by rw [show (s.size : Int) - 1 = (j : Int) by omega]; exact e)
theorem line_at (s : ByteArray) (hs : s.size ≤ 4000000000) : hunks_line.f s = some (line s) := by
 unfold hunks_line.f line
 by_cases h0 : 0 < s.size
 ·rw [if_neg (by rw [nil_size]; omega), bare_at s hs, Option.bind_some, contains_at, Option.bind_some, bare_body s h0, decide_eq_true h0]; rfl
 ·rw [if_pos (by rw [nil_size]; exact h0), decide_eq_false h0]; rfl
theorem r_line_at (s : ByteArray) (hs : s.size ≤ 4000000000) (d : Nat) : ∀ j : Nat, (j : Int) + d = max 0 ((s.size : Int) - 1) → (∀ x : Nat, x < j → bt s (x : Int) ≠ 10) → Ev (fun k => selvageref10_line.l0 k s (j : Int)) (line s) := by
 induction d with
 | zero =>
  intro j hj hn
  refine Ev.step (f := fun _ => some (line s)) (fun k => ?_) (Ev.pure _)
  have hb : body s = true := decide_eq_true (fun x hx => hn x (by omega))
  rw [selvageref10_line.l0, w64' (by omega) (by omega), if_neg (by omega)]
  unfold line
  rw [hb, Bool.and_true]
  congr 1
  by_cases h0 : 0 < s.size
  ·rw [decide_eq_true h0]; exact bne_iff_ne.mpr (by rw [Ne, nil_size]; omega)
  ·rw [decide_eq_false h0]; exact bne_eq_false_iff_eq.mpr (by rw [nil_size]; exact h0)
 | succ d ih =>
  intro j hj hn
  by_cases hb : bt s (j : Int) = 10
  ·refine Ev.step (f := fun _ => some (line s)) (fun k => ?_) (Ev.pure _)
   rw [selvageref10_line.l0, w64' (by omega) (by omega), if_pos (by omega), if_pos (by omega), if_pos (by omega), if_pos hb]
   have hb2 : body s = false := decide_eq_false (fun hh => hh j (by omega) hb)
   unfold line
   rw [hb2]; simp
  ·refine Ev.step (fun k => ?_) (ih (j + 1) (by omega) (fun x hx => by rcases Nat.lt_or_ge x j with h' | h'; exact hn x h'; rw [show x = j by omega]; exact hb))
   rw [selvageref10_line.l0, w64' (i := (s.size : Int) - 1) (by omega) (by omega), if_pos (by omega), if_pos (by omega), if_pos (by omega), if_neg hb, w_of (j + 1) _ (by omega) (by omega)]
theorem r_line (s : ByteArray) (hs : s.size ≤ 4000000000) : Ev (fun k => selvageref10_line.f k s) (line s) :=
 r_line_at s hs (max 0 ((s.size : Int) - 1)).toNat 0 (by omega) (fun x hx => by omega)
end Go.Proofs.YtecjoofjiockkaaGreatDoor.Pure
namespace Go.Proofs.YtecjoofjiockkaaGreatDoor.Pure
open Go.RowKit Go.Proofs.YtecjoofjiockkaaGreatDoor.Pp Go.Proofs.YtecjoofjiockkaaGreatDoor.Ext Go.Proofs.YtecjoofjiockkaaGreatDoorW.PrintWords Go.Proofs.YtecjoofjiockkaaGreatDoorW.PrintLast Go.Proofs.YtecjoofjiockkaaGreatDoorW.PrintMore
abbrev Row := S53
abbrev Hunk := S29
def qD (r : Row) : Bool := r.f0 == 1 || r.f0 == 2
def qE (r : Row) : Bool := r.f0 == 1 || r.f0 == 3
def good (r : Row) (e o : Bool) : Bool := (qD r || qE r) && line r.f1 && !(qD r && e) && !(qE r && o)
def rowsOk : List Row → Bool → Bool → Bool → Bool
 | [], _, _, ch => ch
 | r :: t, e, o, ch => if good r e o = true then rowsOk t (e || (qD r && !whole r.f1)) (o || (qE r && !whole r.f1)) (ch || (r.f0 != 1)) else false
def cntOld (l : List Row) : Nat := l.countP qD
def cntNew (l : List Row) : Nat := l.countP qE
theorem cntOld_le (l : List Row) : cntOld l ≤ l.length := List.countP_le_length
theorem cntNew_le (l : List Row) : cntNew l ≤ l.length := List.countP_le_length
theorem kinds (r : Row) : (r.f0 = 1 ∧ qD r = true ∧ qE r = true) ∨ (r.f0 = 2 ∧ qD r = true ∧ qE r = false) ∨ (r.f0 = 3 ∧ qD r = false ∧ qE r = true) ∨
  ((r.f0 ≠ 1 ∧ r.f0 ≠ 2 ∧ r.f0 ≠ 3) ∧ qD r = false ∧ qE r = false) := by
 by_cases h1 : r.f0 = 1
 ·left; simp [qD, qE, h1]
 ·by_cases h2 : r.f0 = 2
  ·right; left; simp [qD, qE, h2]
  ·by_cases h3 : r.f0 = 3
   ·right; right; left; simp [qD, qE, h3]
   ·right; right; right; simp [qD, qE, h1, h2, h3]
def qG (a n : Int) : Bool := decide (0 ≤ n ∧ 0 ≤ a ∧ (0 < a ∨ n = 0) ∧ a ≤ 2147483647 ∧ n ≤ 2147483647 - a)
def headOk (s : ByteArray) : Bool := decide (s.size ≤ 4096) && !decide (∃ j, j < s.size ∧ bt s ((j : Nat) : Int) = 10)
def qC (h : Hunk) : Bool := rowsOk h.f5 false false false && decide (h.f1 = cntOld h.f5) && decide (h.f3 = cntNew h.f5) && qG h.f0 h.f1 && qG h.f2 h.f3 && headOk h.f4
theorem add_at (c : Int) (e : Bool) (s : ByteArray) (hs : s.size ≤ 4000000000) : hunks_side_add.f c e s = some (if e = true then (false, c, e) else (true, wrap64 (c + 1), !whole s)) := by
 unfold hunks_side_add.f
 cases e with
 | true => rfl
 | false => rw [if_neg (by simp), whole_at s hs, if_neg (by simp)]; rfl
theorem p_sides : ∀ (l : List Row) (c d : Nat) (e f ch : Bool), c + l.length ≤ 4000000000 → d + l.length ≤ 4000000000 → (∀ r ∈ l, r.f1.size ≤ 4000000000) →
  ∃ x, sidesF l c e d f ch = some x ∧ x.2.2 = rowsOk l e f ch ∧ (rowsOk l e f ch = true → x.1.1 = ((c + cntOld l : Nat) : Int) ∧ x.2.1.1 = ((d + cntNew l : Nat) : Int))
 | [], c, d, e, f, ch, _, _, _ => ⟨_, rfl, rfl, fun _ => ⟨rfl, rfl⟩⟩
 | r :: t, c, d, e, f, ch, hc, hd, hs => by
  have hr := hs r (List.mem_cons_self)
  have ht : ∀ r ∈ t, r.f1.size ≤ 4000000000 := fun x hx => hs x (List.mem_cons_of_mem _ hx)
  simp only [List.length_cons] at hc hd
  have wc : wrap64 ((c : Int) + 1) = ((c + 1 : Nat) : Int) := w_of (c + 1) _ (by omega) (by omega)
  have wd : wrap64 ((d : Int) + 1) = ((d + 1 : Nat) : Int) := w_of (d + 1) _ (by omega) (by omega)
  unfold sidesF rowsOk good
  rw [line_at _ hr]
  simp only [addIf, add_at _ _ _ hr, Option.bind_some]
  rcases kinds r with ⟨hk, h1, h2⟩ | ⟨hk, h1, h2⟩ | ⟨hk, h1, h2⟩ | ⟨hk, h1, h2⟩
  ·rw [h1, h2, hk, if_neg (by omega), if_neg (by omega)]
   cases hl : line r.f1 with
   | false => exact ⟨_, by rw [if_neg (by simp)], by simp, by simp⟩
   | true =>
    cases e with
    | true => exact ⟨_, (by simp; rfl), by simp, by simp⟩
    | false =>
     cases f with
     | true => exact ⟨_, (by simp; rfl), by simp, by simp⟩
     | false =>
      obtain ⟨x, e1, e2, e3⟩ := p_sides t (c + 1) (d + 1) (!whole r.f1) (!whole r.f1) ch (by omega) (by omega) ht
      refine ⟨x, by simpa [wc, wd] using e1, by simpa using e2, fun h => ?_⟩
      have := e3 (by simpa using h)
      unfold cntOld cntNew at this ⊢
      simp only [List.countP_cons, h1, h2, Bool.false_eq_true, if_true, if_false, Nat.add_zero]
      exact ⟨this.1.trans (by congr 1; omega), this.2.trans (by congr 1; omega)⟩
  ·rw [h1, h2, hk, if_neg (by omega), if_neg (by omega)]
   cases hl : line r.f1 with
   | false => exact ⟨_, by rw [if_neg (by simp)], by simp, by simp⟩
   | true =>
    cases e with
    | true => exact ⟨_, (by simp; rfl), by simp, by simp⟩
    | false =>
     obtain ⟨x, e1, e2, e3⟩ := p_sides t (c + 1) d (!whole r.f1) f true (by omega) (by omega) ht
     refine ⟨x, by simpa [wc] using e1, by simpa using e2, fun h => ?_⟩
     have := e3 (by simpa using h)
     unfold cntOld cntNew at this ⊢
     simp only [List.countP_cons, h1, h2, Bool.false_eq_true, if_true, if_false, Nat.add_zero]
     exact ⟨this.1.trans (by congr 1; omega), this.2⟩
  ·rw [h1, h2, hk, if_neg (by omega), if_neg (by omega)]
   cases hl : line r.f1 with
   | false => exact ⟨_, by rw [if_neg (by simp)], by simp, by simp⟩
   | true =>
    cases f with
    | true => exact ⟨_, (by simp; rfl), by simp, by simp⟩
    | false =>
     obtain ⟨x, e1, e2, e3⟩ := p_sides t c (d + 1) e (!whole r.f1) true (by omega) (by omega) ht
     refine ⟨x, by simpa [wd] using e1, by simpa using e2, fun h => ?_⟩
     have := e3 (by simpa using h)
     unfold cntOld cntNew at this ⊢
     simp only [List.countP_cons, h1, h2, Bool.false_eq_true, if_true, if_false, Nat.add_zero]
     exact ⟨this.1, this.2.trans (by congr 1; omega)⟩
  ·rw [h1, h2]
   by_cases c1 : r.f0 < 1
   ·exact ⟨_, by rw [if_pos c1], by simp, by simp⟩
   ·exact ⟨_, by rw [if_neg c1, if_pos (by omega)], by simp, by simp⟩
theorem p_place (a n : Int) (ha : -9223372036854775808 ≤ a ∧ a ≤ 9223372036854775807) : hunks_place.f a n = some (qG a n) := by
 unfold hunks_place.f qG
 by_cases h1 : n ≥ 0
 ·by_cases h2 : a ≥ 0
  ·rw [if_pos h1, if_pos h2]
   have hw : a ≤ 2147483647 → wrap64 (2147483647 - a) = 2147483647 - a := fun h => w64' (by omega) (by omega)
   by_cases h4 : a ≤ 2147483647
   ·rw [hw h4]
    by_cases h3 : a > 0
    ·rw [if_pos h3, if_pos h4]; congr 1; exact decide_eq_decide.mpr (by omega)
    ·rw [if_neg h3]
     by_cases h5 : n = 0
     ·rw [if_pos h5, if_pos h4]; congr 1; exact decide_eq_decide.mpr (by omega)
     ·rw [if_neg h5]; congr 1; symm; exact decide_eq_false (by omega)
   ·rw [if_neg h4, if_pos (by omega)]; congr 1; symm; exact decide_eq_false (by omega)
  ·rw [if_pos h1, if_neg h2]; congr 1; symm; exact decide_eq_false (by omega)
 ·rw [if_neg h1]; congr 1; symm; exact decide_eq_false (by omega)
structure Small (h : Hunk) : Prop where
 rows : h.f5.length ≤ 1048576
 texts : ∀ r ∈ h.f5, r.f1.size ≤ 1048576
 head : h.f4.size ≤ 1048576
 a : -9223372036854775808 ≤ h.f0 ∧ h.f0 ≤ 9223372036854775807
 b : -9223372036854775808 ≤ h.f2 ∧ h.f2 ≤ 9223372036854775807
theorem p_hunk (h : Hunk) (hs : Small h) : validF h = some (if qC h = true then none else some 100) := by
 have h1 := hs.rows
 obtain ⟨x, e1, e2, e3⟩ := p_sides h.f5 0 0 false false false (by omega) (by omega) (fun r hr => by have := hs.texts r hr; omega)
 unfold validF hunks_Valid.f hunks_sides.f
 rw [if_pos (by omega)]
 rw [show (0 : Int) = ((0 : Nat) : Int) from rfl, e1, Option.map_some, Option.bind_some]
 simp only [e2]
 unfold qC
 cases hr : rowsOk h.f5 false false false with
 | false => rw [if_neg (by simp)]; simp
 | true =>
  obtain ⟨e4, e5⟩ := e3 hr
  rw [Nat.zero_add] at e4 e5
  rw [if_pos rfl, e4, e5, p_place _ _ hs.a, p_place _ _ hs.b, contains_at]
  simp only [Option.bind_some, Bool.true_and]
  by_cases c1 : h.f1 = (cntOld h.f5 : Int)
  ·by_cases c2 : h.f3 = (cntNew h.f5 : Int)
   ·rw [if_pos c1.symm, if_pos c2.symm, decide_eq_true c1, decide_eq_true c2]
    cases qG h.f0 h.f1 with
    | false => simp
    | true =>
     cases qG h.f2 h.f3 with
     | false => simp
     | true =>
      unfold headOk
      by_cases c3 : h.f4.size ≤ 4096
      ·rw [if_pos rfl, if_pos rfl, if_neg (by omega), decide_eq_true c3]
       cases decide (∃ j, j < h.f4.size ∧ bt h.f4 ((j : Nat) : Int) = 10) <;> simp
      ·rw [if_pos rfl, if_pos rfl, if_pos (by omega), decide_eq_false c3]; simp
   ·rw [if_pos c1.symm, if_neg (fun h => c2 h.symm), decide_eq_false c2]; simp
  ·rw [if_neg (fun h => c1 h.symm), decide_eq_false c1]; simp
theorem r_old (r : Row) : selvageref10_old.f r.f0 r.f1 = some (qD r) := by
 unfold selvageref10_old.f qD
 by_cases h : r.f0 = 1
 ·rw [if_pos h, h]; rfl
 ·rw [if_neg h, show (r.f0 == 1) = false from beq_eq_false_iff_ne.mpr h, Bool.false_or]
theorem r_new (r : Row) : selvageref10_fresh.f r.f0 r.f1 = some (qE r) := by
 unfold selvageref10_fresh.f qE
 by_cases h : r.f0 = 1
 ·rw [if_pos h, h]; rfl
 ·rw [if_neg h, show (r.f0 == 1) = false from beq_eq_false_iff_ne.mpr h, Bool.false_or]
theorem rd_row (l : List Row) (i : Nat) : rd_T53 l ((i : Nat) : Int) = l.getD i z53 := by show l.getD ((i : Int)).toNat _ = _; simp
theorem r_counts_at (l : List Row) (hl : l.length ≤ 4000000000) (d : Nat) : ∀ (i a b : Nat), i + d = l.length → a ≤ i → b ≤ i → Ev (fun k => selvageref10_Counts.l0 k l a b (i : Int)) (((a + cntOld (l.drop i) : Nat) : Int), ((b + cntNew (l.drop i) : Nat) : Int)) := by
 induction d with
 | zero =>
  intro i a b h _ _
  rw [List.drop_of_length_le (by omega)]
  exact Ev.step (f := fun _ => some ((a : Int), (b : Int))) (fun k => by rw [selvageref10_Counts.l0, if_neg (by omega)]) (Ev.pure _)
 | succ d ih =>
  intro i a b h ha hb
  have hi : i < l.length := by omega
  rw [qH l z53 i hi]
  obtain ⟨r, hr⟩ : ∃ r, r = l.getD i z53 := ⟨_, rfl⟩
  have wi : wrap64 ((i : Int) + 1) = ((i + 1 : Nat) : Int) := w_of (i + 1) _ (by omega) (by omega)
  have wa : wrap64 ((a : Int) + 1) = ((a + 1 : Nat) : Int) := w_of (a + 1) _ (by omega) (by omega)
  have wb : wrap64 ((b : Int) + 1) = ((b + 1 : Nat) : Int) := w_of (b + 1) _ (by omega) (by omega)
  unfold cntOld cntNew
  rw [← hr, List.countP_cons, List.countP_cons]
  have hstep : ∀ k, selvageref10_Counts.l0 (k + 1) l a b (i : Int) = selvageref10_Counts.l0 k l ((a + (if qD r = true then 1 else 0) : Nat) : Int) ((b + (if qE r = true then 1 else 0) : Nat) : Int) ((i + 1 : Nat) : Int) := by
   intro k
   rw [selvageref10_Counts.l0, if_pos (by omega), if_pos (by omega), rd_row, ← hr, r_old, r_new, Option.bind_some, Option.bind_some, wi, wa, wb]
   cases qD r <;> cases qE r <;> simp
  have h2 := ih (i + 1) (a + (if qD r = true then 1 else 0)) (b + (if qE r = true then 1 else 0)) (by omega) (by split <;> omega) (by split <;> omega)
  unfold cntOld cntNew at h2
  rw [show a + ((l.drop (i + 1)).countP qD + if qD r = true then 1 else 0) = a + (if qD r = true then 1 else 0) + (l.drop (i + 1)).countP qD by omega,
   show b + ((l.drop (i + 1)).countP qE + if qE r = true then 1 else 0) = b + (if qE r = true then 1 else 0) + (l.drop (i + 1)).countP qE by omega]
  exact Ev.step hstep h2
theorem r_counts (l : List Row) (hl : l.length ≤ 4000000000) : Ev (fun k => selvageref10_Counts.f k l) ((cntOld l : Int), (cntNew l : Int)) := by
 have := r_counts_at l hl l.length 0 0 0 (by omega) (by omega) (by omega)
 rw [List.drop_zero, Nat.zero_add, Nat.zero_add] at this
 exact this
theorem r_part (k : Nat) (l : List Row) (e o ch : Bool) (i : Nat) (hi : (i : Int) + 1 ≤ 9223372036854775807) (r : Row) (hs : r.f1.size ≤ 4000000000) :
  selvageref10_rows.j1 (k + 1) l e o ch (i : Int) false r.f0 r.f1 = selvageref10_rows.l0 k l (e || (qD r && !whole r.f1)) (o || (qE r && !whole r.f1)) (ch || (r.f0 != 1)) ((i + 1 : Nat) : Int) := by
 rw [selvageref10_rows.j1, if_neg (by simp), r_whole_at _ hs, r_old, r_new, Option.bind_some, Option.bind_some, Option.bind_some, w_of (i + 1) _ (by omega) (by omega)]
 cases e <;> cases o <;> cases ch <;> cases whole r.f1 <;> cases qD r <;> cases qE r <;> simp
theorem r_rows_at (l : List Row) (hl : l.length ≤ 4000000000) (hs : ∀ r ∈ l, r.f1.size ≤ 4000000000) (d : Nat) : ∀ (i : Nat) (e o ch : Bool), i + d = l.length → Ev (fun k => selvageref10_rows.l0 k l e o ch (i : Int)) (rowsOk (l.drop i) e o ch) := by
 induction d with
 | zero =>
  intro i e o ch h
  rw [List.drop_of_length_le (by omega)]
  exact Ev.step (f := fun _ => some ch) (fun k => by rw [selvageref10_rows.l0, if_neg (by omega)]) (Ev.pure _)
 | succ d ih =>
  intro i e o ch h
  have hi : i < l.length := by omega
  rw [qH l z53 i hi]
  obtain ⟨r, hr⟩ : ∃ r, r = l.getD i z53 := ⟨_, rfl⟩
  have hm : r ∈ l := by rw [hr, List.getD_eq_getElem?_getD, List.getElem?_eq_getElem hi]; exact List.getElem_mem hi
  have hz := hs r hm
  rw [← hr, rowsOk]
  obtain ⟨K1, hK1⟩ := r_line r.f1 hz
  have hstep : ∀ k, K1 ≤ k → selvageref10_rows.l0 (k + 1) l e o ch (i : Int) = selvageref10_rows.j1 k l e o ch (i : Int) (!good r e o) r.f0 r.f1 := by
   intro k hk
   have hline : selvageref10_line.f k r.f1 = some (line r.f1) := hK1 k hk
   rw [selvageref10_rows.l0, if_pos (by omega), if_pos (by omega), rd_row, ← hr, r_old, r_new, hline]
   unfold good
   cases e <;> cases o <;> cases qD r <;> cases qE r <;> cases line r.f1 <;> simp
  cases hg : good r e o with
  | false =>
   refine ⟨K1 + 2, fun k hk => ?_⟩
   obtain ⟨k, rfl⟩ : ∃ j, k = j + 1 + 1 := ⟨k - 2, by omega⟩
   show selvageref10_rows.l0 (k + 1 + 1) l e o ch (i : Int) = some _
   rw [hstep _ (by omega), hg, if_neg (by simp), selvageref10_rows.j1, if_pos (by rfl)]
  | true =>
   obtain ⟨K2, hK2⟩ := ih (i + 1) (e || (qD r && !whole r.f1)) (o || (qE r && !whole r.f1)) (ch || (r.f0 != 1)) (by omega)
   refine ⟨K1 + K2 + 2, fun k hk => ?_⟩
   obtain ⟨k, rfl⟩ : ∃ j, k = j + 1 + 1 := ⟨k - 2, by omega⟩
   show selvageref10_rows.l0 (k + 1 + 1) l e o ch (i : Int) = some _
   rw [hstep _ (by omega), hg, if_pos rfl, Bool.not_true, r_part k l e o ch i (by omega) r hz]
   exact hK2 k (by omega)
theorem r_rows (l : List Row) (hl : l.length ≤ 4000000000) (hs : ∀ r ∈ l, r.f1.size ≤ 4000000000) : Ev (fun k => selvageref10_rows.f k l) (rowsOk l false false false) := by
 have := r_rows_at l hl hs l.length 0 false false false (by omega)
 rw [List.drop_zero] at this
 exact this
theorem r_start (a n : Int) (hn : 0 ≤ n ∧ n ≤ 4000000000) : selvageref10_start.f a n = some (qG a n) := by
 unfold selvageref10_start.f qG
 rw [w64' (i := 2147483647 - n) (by omega) (by omega)]
 by_cases h1 : n = 0
 ·rw [if_pos h1]
  by_cases h2 : a ≥ 0
  ·rw [if_pos h2]; congr 1; exact decide_eq_decide.mpr (by omega)
  ·rw [if_neg h2]; congr 1; symm; exact decide_eq_false (by omega)
 ·rw [if_neg h1]
  by_cases h2 : a ≥ 1
  ·rw [if_pos h2]; congr 1; exact decide_eq_decide.mpr (by omega)
  ·rw [if_neg h2]; congr 1; symm; exact decide_eq_false (by omega)
theorem r_head_at (h : Hunk) (hs : h.f4.size ≤ 4000000000) (d : Nat) : ∀ (j : Nat) (x : Bool), j + d = h.f4.size →
  Ev (fun k => selvageref10_Valid.l0 k x (j : Int) h.f0 h.f1 h.f2 h.f3 h.f4 h.f5) (if (x && !decide (∃ y, y < h.f4.size ∧ j ≤ y ∧ bt h.f4 ((y : Nat) : Int) = 10)) = true then 0 else 100) := by
 induction d with
 | zero =>
  intro j x hj
  have hd : decide (∃ y, y < h.f4.size ∧ j ≤ y ∧ bt h.f4 ((y : Nat) : Int) = 10) = false := decide_eq_false (fun ⟨y, h1, h2, _⟩ => by omega)
  rw [hd]
  refine Ev.step (f := fun _ => some (if x = true then 0 else 100)) (fun k => ?_) ?_
  ·rw [selvageref10_Valid.l0, if_neg (by omega)]
   cases x <;> rfl
  ·cases x <;> exact Ev.pure _
 | succ d ih =>
  intro j x hj
  have wj : wrap64 ((j : Int) + 1) = ((j + 1 : Nat) : Int) := w_of (j + 1) _ (by omega) (by omega)
  cases x with
  | false =>
   have := ih (j + 1) false (by omega)
   rw [Bool.false_and] at this ⊢
   refine Ev.step (fun k => ?_) this
   rw [selvageref10_Valid.l0, if_pos (by omega), if_neg (by simp), wj]
  | true =>
   have := ih (j + 1) (bt h.f4 (j : Int) != 10) (by omega)
   have he : (true && !decide (∃ y, y < h.f4.size ∧ j ≤ y ∧ bt h.f4 ((y : Nat) : Int) = 10)) = ((bt h.f4 (j : Int) != 10) && !decide (∃ y, y < h.f4.size ∧ j + 1 ≤ y ∧ bt h.f4 ((y : Nat) : Int) = 10)) := by
    rw [Bool.true_and]
    by_cases hb : bt h.f4 (j : Int) = 10
    ·rw [show (bt h.f4 (j : Int) != 10) = false from bne_eq_false_iff_eq.mpr hb, decide_eq_true ⟨j, by omega, Nat.le_refl _, hb⟩]; rfl
    ·rw [show (bt h.f4 (j : Int) != 10) = true from bne_iff_ne.mpr hb, Bool.true_and]
     congr 1
     apply decide_eq_decide.mpr
     constructor
     ·rintro ⟨y, h1, h2, h3⟩
      rcases Nat.lt_or_ge j y with c | c
      ·exact ⟨y, h1, c, h3⟩
      ·exact absurd h3 (by rw [show y = j by omega]; exact hb)
     ·rintro ⟨y, h1, h2, h3⟩
      exact ⟨y, h1, by omega, h3⟩
   rw [he]
   refine Ev.step (fun k => ?_) this
   rw [selvageref10_Valid.l0, if_pos (by omega), if_pos rfl, if_pos (by omega), wj]
theorem r_hunk (h : Hunk) (hs : Small h) : Ev (fun k => selvageref10_Valid.f k h.f0 h.f1 h.f2 h.f3 h.f4 h.f5) (if qC h = true then 0 else 100) := by
 have h1 := hs.rows
 have h2 := hs.head
 have hc1 := cntOld_le h.f5
 have hc2 := cntNew_le h.f5
 have jump : ∀ (x : Bool) (v : Int), (if (x && !decide (∃ y, y < h.f4.size ∧ bt h.f4 ((y : Nat) : Int) = 10)) = true then 0 else 100) = v → Ev (fun k => selvageref10_Valid.j0 k x h.f0 h.f1 h.f2 h.f3 h.f4 h.f5) v := by
  intro x v hv
  have := r_head_at h (by omega) h.f4.size 0 x (by omega)
  rw [show decide (∃ y, y < h.f4.size ∧ 0 ≤ y ∧ bt h.f4 ((y : Nat) : Int) = 10) = decide (∃ y, y < h.f4.size ∧ bt h.f4 ((y : Nat) : Int) = 10) from decide_eq_decide.mpr ⟨fun ⟨y, a, _, b⟩ => ⟨y, a, b⟩, fun ⟨y, a, b⟩ => ⟨y, a, Nat.zero_le _, b⟩⟩, hv] at this
  exact Ev.step (fun k => by rw [selvageref10_Valid.j0]; rfl) this
 unfold selvageref10_Valid.f
 refine Ev.bind (r_counts h.f5 (by omega)) (Ev.bind (r_rows h.f5 (by omega) (fun r hr => by have := hs.texts r hr; omega)) ?_)
 unfold qC
 cases rowsOk h.f5 false false false with
 | false =>
  refine Ev.same (fun k => if_neg (by simp)) (jump false _ ?_)
  simp
 | true =>
  refine Ev.same (fun k => if_pos rfl) ?_
  simp only []
  by_cases c1 : h.f1 = (cntOld h.f5 : Int)
  ·refine Ev.same (fun k => if_pos c1) ?_
   by_cases c2 : h.f3 = (cntNew h.f5 : Int)
   ·refine Ev.same (fun k => if_pos c2) ?_
    rw [← c1, ← c2, decide_eq_true rfl, decide_eq_true rfl, r_start h.f0 h.f1 (by omega), r_start h.f2 h.f3 (by omega)]
    simp only [Option.bind_some]
    cases qG h.f0 h.f1 with
    | false =>
     refine Ev.same (fun k => if_neg (by simp)) (jump false _ ?_)
     simp
    | true =>
     refine Ev.same (fun k => if_pos rfl) ?_
     cases qG h.f2 h.f3 with
     | false =>
      refine Ev.same (fun k => if_neg (by simp)) (jump false _ ?_)
      simp
     | true =>
      refine Ev.same (fun k => if_pos rfl) (jump _ _ ?_)
      unfold headOk
      simp only [Bool.true_and]
      rw [show decide ((h.f4.size : Int) ≤ 4096) = decide (h.f4.size ≤ 4096) from decide_eq_decide.mpr (by omega)]
   ·refine Ev.same (fun k => if_neg c2) (jump false _ ?_)
    rw [decide_eq_false c2]; simp
  ·refine Ev.same (fun k => if_neg c1) (jump false _ ?_)
   rw [decide_eq_false c1]; simp
end Go.Proofs.YtecjoofjiockkaaGreatDoor.Pure
namespace Go.Proofs.YtecjoofjiockkaaGreatDoor.Pure
open Go.RowKit Go.Proofs.YtecjoofjiockkaaGreatDoor.Pp Go.Proofs.YtecjoofjiockkaaGreatDoor.Ext Go.Proofs.YtecjoofjiockkaaGreatDoorW.PrintWords Go.Proofs.YtecjoofjiockkaaGreatDoorW.PrintLast Go.Proofs.YtecjoofjiockkaaGreatDoorW.PrintMore
theorem of_wf {x : Int} (h : (Lit.int IntKind.i64 x).wf = true) : -9223372036854775808 ≤ x ∧ x ≤ 9223372036854775807 := by
 simp only [Lit.wf, Bool.and_eq_true, decide_eq_true_eq] at h
 exact ⟨h.1, h.2⟩
theorem mem_sum {α : Type} (f : α → Nat) : ∀ (l : List α), ∀ x ∈ l, f x ≤ (l.map f).sum
 | [], _, h => by cases h
 | y :: t, x, h => by
  rw [List.map_cons, List.sum_cons]
  rcases List.mem_cons.mp h with rfl | h
  ·omega
  ·have := mem_sum f t x h; omega
theorem len_sum {α : Type} (f : α → Nat) (c : Nat) (hf : ∀ x, c ≤ f x) : ∀ (l : List α), c * l.length ≤ (l.map f).sum
 | [] => by simp
 | y :: t => by
  have h1 := len_sum f c hf t
  have h2 := hf y
  rw [List.map_cons, List.sum_cons, List.length_cons, Nat.mul_add]; omega
def rowsSum (l : List Hunk) : Nat := (l.map fun h => h.f5.length).sum
theorem rowsSum_cons (h : Hunk) (t : List Hunk) : rowsSum (h :: t) = h.f5.length + rowsSum t := by unfold rowsSum; simp
def numE (e : Option Int) : Int := e.getD 0
theorem num_ev (e : Option Int) : Ev (fun _ => selvagelaw10_num.f e) (numE e) := Ev.pure _
theorem rd_hunk (l : List Hunk) (i : Nat) : rd_T29 l ((i : Nat) : Int) = l.getD i z29 := by show l.getD ((i : Int)).toNat _ = _; simp
theorem rd_mem (l : List Hunk) (i : Nat) (hi : i < l.length) : l.getD i z29 ∈ l := by
 rw [List.getD_eq_getElem?_getD, List.getElem?_eq_getElem hi]; exact List.getElem_mem hi
structure Hs (l : List Hunk) : Prop where
 all : ∀ h ∈ l, Small h
 count : l.length ≤ 1048576
 rows : rowsSum l ≤ 1048576
theorem wt_row (r : Row) : Ext.wt53 r = r.f1.size + 3 := by unfold Ext.wt53; omega
theorem wt_hunk (h : Hunk) : Ext.wt29 h = h.f4.size + (h.f5.map Ext.wt53).sum + 7 := by unfold Ext.wt29; omega
theorem rowsSum_le : ∀ l : List Hunk, rowsSum l ≤ (l.map Ext.wt29).sum
 | [] => by simp [rowsSum]
 | h :: t => by
  have h1 := rowsSum_le t
  have h2 := len_sum Ext.wt53 3 (fun r => by rw [wt_row]; omega) h.f5
  rw [rowsSum_cons, List.map_cons, List.sum_cons, wt_hunk]; omega
theorem small_of {h : Hunk} (hok : Ext.ok29 h) (hb : Ext.wt29 h ≤ 1048576) : Small h := by
 rw [wt_hunk] at hb
 have h2 := len_sum Ext.wt53 3 (fun r => by rw [wt_row]; omega) h.f5
 refine ⟨by omega, fun r hr => ?_, by omega, of_wf hok.1, of_wf hok.2.2.1⟩
 have := mem_sum Ext.wt53 h.f5 r hr
 rw [wt_row] at this; omega
theorem hs_of (l : List Hunk) (hok : ∀ z ∈ l, Ext.ok29 z) (hb : (l.map Ext.wt29).sum + 1 ≤ 1048576) : Hs l := by
 have h1 := len_sum Ext.wt29 7 (fun h => by rw [wt_hunk]; omega) l
 have h2 := rowsSum_le l
 exact ⟨fun h hm => small_of (hok h hm) (by have := mem_sum Ext.wt29 l h hm; omega), by omega, by omega⟩
theorem twin_loop (l : List Hunk) (hl : l.length ≤ 1000000000) (hs : ∀ h ∈ l, h.f5.length ≤ 1000000000) (d : Nat) : ∀ (i : Nat) (x : List Hunk), i + d = l.length → x.length = i → Ev (fun k => selvagelaw10_twins.l0 k l x (i : Int)) (x ++ l.drop i) := by
 induction d with
 | zero =>
  intro i x h _
  rw [List.drop_of_length_le (by omega), List.append_nil]
  exact Ev.step (f := fun _ => some x) (fun k => by rw [selvagelaw10_twins.l0, if_neg (by omega)]) (Ev.pure _)
 | succ d ih =>
  intro i x h hx
  have hi : i < l.length := by omega
  have w1 : wrap64 ((i : Int) + 1) = ((i + 1 : Nat) : Int) := w_add i 1 (by omega)
  have hm := hs _ (rd_mem l i hi)
  have hd := ih (i + 1) (x ++ [l.getD i z29]) (by omega) (by rw [List.length_append]; simp; omega)
  rw [qH l z29 i hi, show x ++ l.getD i z29 :: l.drop (i + 1) = (x ++ [l.getD i z29]) ++ l.drop (i + 1) by simp]
  refine Ev.step (fun k => ?_) hd
  rw [selvagelaw10_twins.l0, w1, if_pos (by omega), if_pos (by omega), rd_hunk]
  unfold selvagelaw10_twin.f
  rw [if_pos (by rw [List.length_nil]; omega), Option.bind_some, if_pos (by omega)]
  rfl
theorem twins_at (l : List Hunk) (hl : l.length ≤ 1000000000) (hs : ∀ h ∈ l, h.f5.length ≤ 1000000000) : Ev (fun k => selvagelaw10_twins.f k l) l := by
 have := twin_loop l hl hs l.length 0 [] (by omega) rfl
 rw [List.drop_zero, List.nil_append] at this
 exact this
theorem same_loop (h : Hunk) (hr : h.f5.length ≤ 4000000000) (d : Nat) : ∀ j : Nat, j + d = h.f5.length →
  Ev (fun k => selvagelaw10_same.l0 k (j : Int) h.f0 h.f1 h.f2 h.f3 h.f4 h.f5 h.f0 h.f1 h.f2 h.f3 h.f4 h.f5) true := by
 induction d with
 | zero =>
  intro j hj
  exact Ev.step (f := fun _ => some true) (fun k => by rw [selvagelaw10_same.l0, if_neg (by omega)]) (Ev.pure _)
 | succ d ih =>
  intro j hj
  have w1 : wrap64 ((j : Int) + 1) = ((j + 1 : Nat) : Int) := w_add j 1 (by omega)
  refine Ev.step (fun k => ?_) (ih (j + 1) (by omega))
  rw [selvagelaw10_same.l0, w1, if_pos (by omega), if_pos (by omega), if_pos (by omega), if_neg (by simp)]
theorem same_at (h : Hunk) (hr : h.f5.length ≤ 4000000000) : Ev (fun k => selvagelaw10_same.f k h.f0 h.f1 h.f2 h.f3 h.f4 h.f5 h.f0 h.f1 h.f2 h.f3 h.f4 h.f5) true := by
 unfold selvagelaw10_same.f
 refine Ev.same (fun k => by rw [if_pos rfl, if_pos rfl, if_pos rfl, if_pos rfl, if_pos rfl, bne_self_eq_false]) ?_
 exact Ev.step (fun k => by rw [selvagelaw10_same.j0, if_neg (by simp)]; rfl) (same_loop h hr _ 0 (Nat.zero_add _))
theorem works_60 : selvagelaw10_works.f 60 = some true := by decide +kernel
theorem ev_works : Ev (fun k => selvagelaw10_works.f k) true := Ev.of (fun k => selvagelaw10_works.mono k) works_60
end Go.Proofs.YtecjoofjiockkaaGreatDoor.Pure
namespace Go.Proofs.YtecjoofjiockkaaGreatDoor.Pure
open Go.RowKit Go.Proofs.YtecjoofjiockkaaGreatDoor.Pp Go.Proofs.YtecjoofjiockkaaGreatDoor.Ext Go.Proofs.YtecjoofjiockkaaGreatDoorW.PrintWords Go.Proofs.YtecjoofjiockkaaGreatDoorW.PrintLast Go.Proofs.YtecjoofjiockkaaGreatDoorW.PrintMore
def endOld (l : List Row) : Bool := l.any fun r => qD r && !whole r.f1
def endNew (l : List Row) : Bool := l.any fun r => qE r && !whole r.f1
theorem sides_end : ∀ (l : List Row) (c d : Int) (e f ch : Bool) (x : (Int × Bool) × (Int × Bool) × Bool), (∀ r ∈ l, r.f1.size ≤ 4000000000) → sidesF l c e d f ch = some x → rowsOk l e f ch = true →
  x.1.2 = (e || endOld l) ∧ x.2.1.2 = (f || endNew l)
 | [], c, d, e, f, ch, x, _, h, _ => by
  obtain rfl := Option.some.inj h
  simp [endOld, endNew]
 | r :: t, c, d, e, f, ch, x, hs, h, ok => by
  have hr := hs r (List.mem_cons_self)
  have ht : ∀ r ∈ t, r.f1.size ≤ 4000000000 := fun x hx => hs x (List.mem_cons_of_mem _ hx)
  unfold rowsOk at ok
  split at ok
  case isFalse => cases ok
  rename_i hg
  unfold good at hg
  simp only [Bool.and_eq_true, Bool.or_eq_true, Bool.not_eq_true'] at hg
  unfold sidesF at h
  rw [line_at _ hr] at h
  simp only [addIf, add_at _ _ _ hr, Option.bind_some] at h
  have eo : endOld (r :: t) = ((qD r && !whole r.f1) || endOld t) := by simp [endOld]
  have en : endNew (r :: t) = ((qE r && !whole r.f1) || endNew t) := by simp [endNew]
  rw [eo, en]
  rcases kinds r with ⟨hk, h1, h2⟩ | ⟨hk, h1, h2⟩ | ⟨hk, h1, h2⟩ | ⟨hk, h1, h2⟩
  ·rw [h1, h2] at hg ok
   obtain ⟨⟨⟨_, hl⟩, he⟩, hf⟩ := hg
   obtain rfl : e = false := by simpa using he
   obtain rfl : f = false := by simpa using hf
   rw [hk, hl, if_neg (by omega), if_neg (by omega)] at h
   simp [hk] at h
   have := sides_end t _ _ _ _ _ x ht h (by simpa [hk] using ok)
   rw [h1, h2]
   simpa using this
  ·rw [h1, h2] at hg ok
   obtain ⟨⟨⟨_, hl⟩, he⟩, hf⟩ := hg
   obtain rfl : e = false := by simpa using he
   rw [hk, hl, if_neg (by omega), if_neg (by omega)] at h
   simp [hk] at h
   have := sides_end t _ _ _ _ _ x ht h (by simpa [hk] using ok)
   rw [h1, h2]
   simpa using this
  ·rw [h1, h2] at hg ok
   obtain ⟨⟨⟨_, hl⟩, he⟩, hf⟩ := hg
   obtain rfl : f = false := by simpa using hf
   rw [hk, hl, if_neg (by omega), if_neg (by omega)] at h
   simp [hk] at h
   have := sides_end t _ _ _ _ _ x ht h (by simpa [hk] using ok)
   rw [h1, h2]
   simpa using this
  ·rw [h1, h2] at hg; simp at hg
def qA (a n : Int) : Int := if n > 0 then a - 1 else a
theorem ahead_at (a n : Int) (ha : -1000000000000 ≤ a ∧ a ≤ 1000000000000) : hunks_ahead.f a n = some (qA a n) := by
 unfold hunks_ahead.f qA
 split
 ·rw [w64' (i := a - 1) (by omega) (by omega)]
 ·rfl
theorem place_at (a n : Int) (ha : -1000000000000 ≤ a ∧ a ≤ 1000000000000) : selvageref10_Place.f a n = some (qA a n) := by
 unfold selvageref10_Place.f qA
 split
 ·rw [w64' (i := a - 1) (by omega) (by omega)]
 ·rfl
theorem hunk_rows {h : Hunk} (hk : qC h = true) : rowsOk h.f5 false false false = true := by
 unfold qC at hk
 simp only [Bool.and_eq_true] at hk
 exact hk.1.1.1.1.1
theorem qF {h : Hunk} (hk : qC h = true) : (0 ≤ h.f1 ∧ 0 ≤ h.f0 ∧ (0 < h.f0 ∨ h.f1 = 0) ∧ h.f0 ≤ 2147483647 ∧ h.f1 ≤ 2147483647 - h.f0) ∧ (0 ≤ h.f3 ∧ 0 ≤ h.f2 ∧ (0 < h.f2 ∨ h.f3 = 0) ∧ h.f2 ≤ 2147483647 ∧ h.f3 ≤ 2147483647 - h.f2) := by
 unfold qC at hk
 simp only [Bool.and_eq_true] at hk
 exact ⟨of_decide_eq_true (show qG h.f0 h.f1 = true from hk.1.1.2), of_decide_eq_true (show qG h.f2 h.f3 = true from hk.1.2)⟩
theorem aheadI_in {a n : Int} (h : 0 ≤ n ∧ 0 ≤ a ∧ (0 < a ∨ n = 0) ∧ a ≤ 2147483647 ∧ n ≤ 2147483647 - a) : 0 ≤ qA a n ∧ qA a n ≤ 2147483647 ∧ qA a n + n ≤ 2147483647 := by
 unfold qA; split <;> omega
theorem order_nums {h0 h1 h2 h3 a b : Int} (p : 0 ≤ h1 ∧ 0 ≤ h0 ∧ (0 < h0 ∨ h1 = 0) ∧ h0 ≤ 2147483647 ∧ h1 ≤ 2147483647 - h0) (q : 0 ≤ h3 ∧ 0 ≤ h2 ∧ (0 < h2 ∨ h3 = 0) ∧ h2 ≤ 2147483647 ∧ h3 ≤ 2147483647 - h2) (ha : 0 ≤ a ∧ a ≤ 4294967296) (hb : 0 ≤ b ∧ b ≤ 4294967296) :
  wrap64 (qA h0 h1 - qA h2 h3) = qA h0 h1 - qA h2 h3 ∧ wrap64 (a - b) = a - b ∧ wrap64 (qA h0 h1 + h1) = qA h0 h1 + h1 ∧ wrap64 (qA h2 h3 + h3) = qA h2 h3 + h3 ∧ (-1000000000000 ≤ h0 ∧ h0 ≤ 1000000000000) ∧ (-1000000000000 ≤ h2 ∧ h2 ≤ 1000000000000) := by
 have h1 := aheadI_in p
 have h2 := aheadI_in q
 exact ⟨w64' (by omega) (by omega), w64' (by omega) (by omega), w64' (by omega) (by omega), w64' (by omega) (by omega), by omega, by omega⟩
attribute [local irreducible] qA
theorem sides_ok (h : Hunk) (hs : Small h) (hk : qC h = true) : ∃ c d : Int, hunks_sides.f h.f0 h.f1 h.f2 h.f3 h.f4 h.f5 = some (c, endOld h.f5, d, endNew h.f5, true) := by
 have hz : ∀ r ∈ h.f5, r.f1.size ≤ 4000000000 := fun r hr => by have := hs.texts r hr; omega
 have hl := hs.rows
 obtain ⟨x, e1, e2, e3⟩ := p_sides h.f5 0 0 false false false (by omega) (by omega) hz
 obtain ⟨e4, e5⟩ := sides_end h.f5 _ _ _ _ _ x hz e1 (hunk_rows hk)
 unfold hunks_sides.f
 rw [if_pos (by omega), show (0 : Int) = ((0 : Nat) : Int) from rfl, e1]
 refine ⟨x.1.1, x.2.1.1, ?_⟩
 rw [Option.map_some, e4, e5, e2, hunk_rows hk, Bool.false_or, Bool.false_or]
def ordL : List Hunk → Int → Int → Bool → Bool → Bool
 | [], _, _, _, _ => true
 | h :: t, a, b, e, o =>
  if qA h.f0 h.f1 < a then false else if qA h.f2 h.f3 < b then false
  else if qA h.f0 h.f1 - qA h.f2 h.f3 = a - b then
   (if e = true ∧ h.f1 > 0 then false else if o = true ∧ h.f3 > 0 then false
    else ordL t (qA h.f0 h.f1 + h.f1) (qA h.f2 h.f3 + h.f3) (e || endOld h.f5) (o || endNew h.f5))
  else false
def orderS (l : List Hunk) : Option Int := if l.all qC = true then (if ordL l 0 0 false false = true then none else some 112) else some 100
theorem p_order_step (k : Nat) (l : List Hunk) (i : Nat) (hi : i < l.length) (hl : l.length ≤ 1000000000) (h : Hunk) (hh : h = l.getD i z29) (hs : Small h) (hk : qC h = true) (a b : Int) (ha : 0 ≤ a ∧ a ≤ 4294967296) (hb : 0 ≤ b ∧ b ≤ 4294967296) (e o : Bool) :
  hunks_Order.l1 (k + 1) a b e o l (l.length : Int) (i : Int) = (if qA h.f0 h.f1 < a then some (some 112) else if qA h.f2 h.f3 < b then some (some 112)
   else if qA h.f0 h.f1 - qA h.f2 h.f3 = a - b then (if e = true ∧ h.f1 > 0 then some (some 112) else if o = true ∧ h.f3 > 0 then some (some 112)
    else hunks_Order.l1 k (qA h.f0 h.f1 + h.f1) (qA h.f2 h.f3 + h.f3) (e || endOld h.f5) (o || endNew h.f5) l (l.length : Int) ((i + 1 : Nat) : Int)) else some (some 112)) := by
 have c0 : (0 : Int) ≤ (i : Int) := by omega
 have c1 : (i : Int) < (l.length : Int) := by omega
 have w1 : wrap64 ((i : Int) + 1) = ((i + 1 : Nat) : Int) := w_add i 1 (by omega)
 obtain ⟨w2, w3, w4, w5, b1, b2⟩ := order_nums (qF hk).1 (qF hk).2 ha hb
 obtain ⟨c, d, hsd⟩ := sides_ok h hs hk
 rw [hunks_Order.l1, if_pos c1, if_pos c0, if_pos c1, rd_hunk, ← hh, ahead_at _ _ b1, Option.bind_some, ahead_at _ _ b2, Option.bind_some, w1, w2, w3, w4, w5, hsd]
 simp only [Option.bind_some]
 cases e <;> cases o <;> simp
theorem p_order (l : List Hunk) (hl : l.length ≤ 1000000000) (ok : ∀ h ∈ l, Small h ∧ qC h = true) (d : Nat) : ∀ (i : Nat) (a b : Int) (e o : Bool), i + d = l.length → (0 ≤ a ∧ a ≤ 4294967296) → (0 ≤ b ∧ b ≤ 4294967296) →
  Ev (fun k => hunks_Order.l1 k a b e o l (l.length : Int) (i : Int)) (if ordL (l.drop i) a b e o = true then none else some 112) := by
 induction d with
 | zero =>
  intro i a b e o h _ _
  rw [List.drop_of_length_le (by omega)]
  exact Ev.step (f := fun _ => some none) (fun k => by rw [hunks_Order.l1, if_neg (by omega)]) (Ev.pure _)
 | succ d ih =>
  intro i a b e o h ha hb
  have hi : i < l.length := by omega
  obtain ⟨x, hx⟩ : ∃ x, x = l.getD i z29 := ⟨_, rfl⟩
  obtain ⟨hs, hk⟩ := ok x (by rw [hx]; exact rd_mem l i hi)
  have hp := qF hk
  have h1 := aheadI_in hp.1
  have h2 := aheadI_in hp.2
  rw [qH l z29 i hi, ← hx]
  refine Ev.step (fun k => p_order_step k l i hi hl x hx hs hk a b ha hb e o) ?_
  unfold ordL
  by_cases c1 : qA x.f0 x.f1 < a
  ·simp only [if_pos c1]; exact Ev.pure _
  by_cases c2 : qA x.f2 x.f3 < b
  ·simp only [if_neg c1, if_pos c2]; exact Ev.pure _
  by_cases c3 : qA x.f0 x.f1 - qA x.f2 x.f3 = a - b
  ·by_cases c4 : e = true ∧ x.f1 > 0
   ·simp only [if_neg c1, if_neg c2, if_pos c3, if_pos c4]; exact Ev.pure _
   by_cases c5 : o = true ∧ x.f3 > 0
   ·simp only [if_neg c1, if_neg c2, if_pos c3, if_neg c4, if_pos c5]; exact Ev.pure _
   simp only [if_neg c1, if_neg c2, if_pos c3, if_neg c4, if_neg c5]
   exact ih (i + 1) _ _ _ _ (by omega) (by omega) (by omega)
  ·simp only [if_neg c1, if_neg c2, if_neg c3]; exact Ev.pure _
theorem all_drop (l : List Hunk) (i : Nat) (hi : i < l.length) : (l.drop i).all qC = (qC (l.getD i z29) && (l.drop (i + 1)).all qC) := by
 rw [qH l z29 i hi, List.all_cons]
theorem p_valids (l : List Hunk) (hl : l.length ≤ 1000000000) (hs : ∀ h ∈ l, Small h) (v : Option Int) (hv : l.all qC = true → Ev (fun k => hunks_Order.l1 k 0 0 false false l (l.length : Int) 0) v) (d : Nat) : ∀ i : Nat, i + d = l.length → (∀ j, j < i → qC (l.getD j z29) = true) →
  Ev (fun k => hunks_Order.l0 k l l (l.length : Int) (i : Int)) (if (l.drop i).all qC = true then v else some 100) := by
 induction d with
 | zero =>
  intro i h hj
  rw [List.drop_of_length_le (by omega), if_pos (by rfl)]
  refine Ev.step (fun k => by rw [hunks_Order.l0, if_neg (by omega)]) (hv (List.all_eq_true.mpr fun x hx => ?_))
  obtain ⟨j, hj1, rfl⟩ := List.mem_iff_getElem.mp hx
  have := hj j (by omega)
  rwa [List.getD_eq_getElem?_getD, List.getElem?_eq_getElem hj1] at this
 | succ d ih =>
  intro i h hj
  have hi : i < l.length := by omega
  have w1 : wrap64 ((i : Int) + 1) = ((i + 1 : Nat) : Int) := w_add i 1 (by omega)
  have hp := p_hunk _ (hs _ (rd_mem l i hi))
  unfold validF at hp
  rw [all_drop l i hi]
  cases hk : qC (l.getD i z29) with
  | true =>
   rw [hk] at hp
   rw [Bool.true_and]
   refine Ev.step (fun k => by rw [hunks_Order.l0, if_pos (by omega), if_pos (by omega), if_pos (by omega), rd_hunk, hp]; simp [w1]) (ih (i + 1) (by omega) (fun j hj' => ?_))
   rcases Nat.lt_or_ge j i with c | c
   ·exact hj j c
   ·rw [show j = i by omega]; exact hk
  | false =>
   rw [hk, if_neg (by simp)] at hp
   rw [Bool.false_and, if_neg (by simp)]
   exact Ev.step (f := fun _ => some (some 100)) (fun k => by rw [hunks_Order.l0, if_pos (by omega), if_pos (by omega), if_pos (by omega), rd_hunk, hp, Option.bind_some, if_neg (by simp)]; rfl) (Ev.pure _)
theorem order_at (l : List Hunk) (hl : Hs l) : Ev (fun k => hunks_Order.f k l) (orderS l) := by
 have h1 := hl.count
 refine p_valids l (by omega) hl.all _ (fun ha => ?_) l.length 0 (by omega) (fun j hj => by omega)
 have := p_order l (by omega) (fun h hm => ⟨hl.all h hm, List.all_eq_true.mp ha h hm⟩) l.length 0 0 0 false false (by omega) (by omega) (by omega)
 rw [List.drop_zero] at this
 exact this
theorem r_partial_at (h : Hunk) (hs : Small h) (d : Nat) : ∀ (i : Nat) (e o : Bool), i + d = h.f5.length → Ev (fun k => selvageref10_partial.l0 k e o (i : Int) h.f0 h.f1 h.f2 h.f3 h.f4 h.f5) ((e || endOld (h.f5.drop i)), (o || endNew (h.f5.drop i))) := by
 have hr := hs.rows
 induction d with
 | zero =>
  intro i e o hi
  rw [List.drop_of_length_le (by omega)]
  refine Ev.step (f := fun _ => some (e, o)) (fun k => by rw [selvageref10_partial.l0, if_neg (by omega)]) ?_
  unfold endOld endNew
  rw [List.any_nil, List.any_nil, Bool.or_false, Bool.or_false]
  exact Ev.pure _
 | succ d ih =>
  intro i e o hi
  have hlt : i < h.f5.length := by omega
  obtain ⟨r, hre⟩ : ∃ r, r = h.f5.getD i z53 := ⟨_, rfl⟩
  have hm : r ∈ h.f5 := by rw [hre, List.getD_eq_getElem?_getD, List.getElem?_eq_getElem hlt]; exact List.getElem_mem hlt
  have hz : r.f1.size ≤ 4000000000 := by have := hs.texts r hm; omega
  have w1 : wrap64 ((i : Int) + 1) = ((i + 1 : Nat) : Int) := w_add i 1 (by omega)
  have h2 := ih (i + 1) (e || (qD r && !whole r.f1)) (o || (qE r && !whole r.f1)) (by omega)
  have ee : (e || endOld (h.f5.drop i)) = ((e || (qD r && !whole r.f1)) || endOld (h.f5.drop (i + 1))) := by rw [qH h.f5 z53 i hlt, ← hre]; unfold endOld; rw [List.any_cons, Bool.or_assoc]
  have eo : (o || endNew (h.f5.drop i)) = ((o || (qE r && !whole r.f1)) || endNew (h.f5.drop (i + 1))) := by rw [qH h.f5 z53 i hlt, ← hre]; unfold endNew; rw [List.any_cons, Bool.or_assoc]
  rw [ee, eo]
  refine Ev.step (fun k => ?_) h2
  rw [selvageref10_partial.l0, if_pos (by omega), if_pos (by omega), rd_row, ← hre, r_whole_at _ hz, Option.bind_some, r_old, r_new, w1]
  simp only [Option.bind_some]
  cases e <;> cases o <;> cases whole r.f1 <;> simp
theorem r_partial (h : Hunk) (hs : Small h) : Ev (fun k => selvageref10_partial.f k h.f0 h.f1 h.f2 h.f3 h.f4 h.f5) (endOld h.f5, endNew h.f5) := by
 have := r_partial_at h hs h.f5.length 0 false false (by omega)
 rw [List.drop_zero, Bool.false_or, Bool.false_or] at this
 exact this
theorem r_order_step (k : Nat) (l : List Hunk) (i : Nat) (hi : i < l.length) (hl : l.length ≤ 1000000000) (h : Hunk) (hh : h = l.getD i z29) (hk : qC h = true) (a b : Int) (ha : 0 ≤ a ∧ a ≤ 4294967296) (hb : 0 ≤ b ∧ b ≤ 4294967296) (e o : Bool) :
  selvageref10_Order.l1 (k + 1) l a b e o (i : Int) = (if qA h.f0 h.f1 < a then some 112 else if qA h.f2 h.f3 < b then some 112
   else if qA h.f0 h.f1 - qA h.f2 h.f3 = a - b then (if e = true ∧ h.f1 > 0 then some 112 else if o = true ∧ h.f3 > 0 then some 112
    else (selvageref10_partial.f k h.f0 h.f1 h.f2 h.f3 h.f4 h.f5).bind fun bt => selvageref10_Order.l1 k l (qA h.f0 h.f1 + h.f1) (qA h.f2 h.f3 + h.f3) (e || bt.1) (o || bt.2) ((i + 1 : Nat) : Int)) else some 112) := by
 have c0 : (0 : Int) ≤ (i : Int) := by omega
 have c1 : (i : Int) < (l.length : Int) := by omega
 have w1 : wrap64 ((i : Int) + 1) = ((i + 1 : Nat) : Int) := w_add i 1 (by omega)
 obtain ⟨w2, w3, w4, w5, b1, b2⟩ := order_nums (qF hk).1 (qF hk).2 ha hb
 rw [selvageref10_Order.l1, if_pos c1, if_pos c0, rd_hunk, ← hh, place_at _ _ b1, Option.bind_some, place_at _ _ b2, Option.bind_some, w1, w2, w3, w4, w5]
 cases e <;> cases o <;> simp
theorem r_order1 (l : List Hunk) (hl : l.length ≤ 1000000000) (ok : ∀ h ∈ l, Small h ∧ qC h = true) (d : Nat) : ∀ (i : Nat) (a b : Int) (e o : Bool), i + d = l.length → (0 ≤ a ∧ a ≤ 4294967296) → (0 ≤ b ∧ b ≤ 4294967296) →
  Ev (fun k => selvageref10_Order.l1 k l a b e o (i : Int)) (if ordL (l.drop i) a b e o = true then 0 else 112) := by
 induction d with
 | zero =>
  intro i a b e o h _ _
  rw [List.drop_of_length_le (by omega)]
  exact Ev.step (f := fun _ => some 0) (fun k => by rw [selvageref10_Order.l1, if_neg (by omega)]) (Ev.pure _)
 | succ d ih =>
  intro i a b e o h ha hb
  have hi : i < l.length := by omega
  obtain ⟨x, hx⟩ : ∃ x, x = l.getD i z29 := ⟨_, rfl⟩
  obtain ⟨hs, hk⟩ := ok x (by rw [hx]; exact rd_mem l i hi)
  have hp := qF hk
  have h1 := aheadI_in hp.1
  have h2 := aheadI_in hp.2
  rw [qH l z29 i hi, ← hx]
  refine Ev.step (fun k => r_order_step k l i hi hl x hx hk a b ha hb e o) ?_
  unfold ordL
  by_cases c1 : qA x.f0 x.f1 < a
  ·simp only [if_pos c1]; exact Ev.pure _
  by_cases c2 : qA x.f2 x.f3 < b
  ·simp only [if_neg c1, if_pos c2]; exact Ev.pure _
  by_cases c3 : qA x.f0 x.f1 - qA x.f2 x.f3 = a - b
  ·by_cases c4 : e = true ∧ x.f1 > 0
   ·simp only [if_neg c1, if_neg c2, if_pos c3, if_pos c4]; exact Ev.pure _
   by_cases c5 : o = true ∧ x.f3 > 0
   ·simp only [if_neg c1, if_neg c2, if_pos c3, if_neg c4, if_pos c5]; exact Ev.pure _
   simp only [if_neg c1, if_neg c2, if_pos c3, if_neg c4, if_neg c5]
   exact Ev.bind (r_partial x hs) (ih (i + 1) _ _ _ _ (by omega) (by omega) (by omega))
  ·simp only [if_neg c1, if_neg c2, if_neg c3]; exact Ev.pure _
theorem r_valids (l : List Hunk) (hl : l.length ≤ 1000000000) (hs : ∀ h ∈ l, Small h) (v : Int) (hv : l.all qC = true → Ev (fun k => selvageref10_Order.l1 k l 0 0 false false 0) v) (d : Nat) : ∀ i : Nat, i + d = l.length → (∀ j, j < i → qC (l.getD j z29) = true) →
  Ev (fun k => selvageref10_Order.l0 k l (i : Int)) (if (l.drop i).all qC = true then v else 100) := by
 induction d with
 | zero =>
  intro i h hj
  rw [List.drop_of_length_le (by omega), if_pos (by rfl)]
  refine Ev.step (fun k => by rw [selvageref10_Order.l0, if_neg (by omega)]) (hv (List.all_eq_true.mpr fun x hx => ?_))
  obtain ⟨j, hj1, rfl⟩ := List.mem_iff_getElem.mp hx
  have := hj j (by omega)
  rwa [List.getD_eq_getElem?_getD, List.getElem?_eq_getElem hj1] at this
 | succ d ih =>
  intro i h hj
  have hi : i < l.length := by omega
  have w1 : wrap64 ((i : Int) + 1) = ((i + 1 : Nat) : Int) := w_add i 1 (by omega)
  have hp := r_hunk _ (hs _ (rd_mem l i hi))
  rw [all_drop l i hi]
  refine Ev.step (fun k => by rw [selvageref10_Order.l0, if_pos (by omega), if_pos (by omega), rd_hunk, w1]) (Ev.bind hp ?_)
  cases hk : qC (l.getD i z29) with
  | true =>
   rw [Bool.true_and]
   refine Ev.same (fun k => if_pos (by simp)) (ih (i + 1) (by omega) (fun j hj' => ?_))
   rcases Nat.lt_or_ge j i with c | c
   ·exact hj j c
   ·rw [show j = i by omega]; exact hk
  | false =>
   rw [Bool.false_and]
   exact Ev.same (fun k => if_neg (by simp)) (Ev.pure _)
theorem r_order_at (l : List Hunk) (hl : Hs l) : Ev (fun k => selvageref10_Order.f k l) (numE (orderS l)) := by
 have h1 := hl.count
 have h2 : numE (orderS l) = (if (l.drop 0).all qC = true then (if ordL l 0 0 false false = true then 0 else 112) else 100) := by
  unfold orderS numE
  rw [List.drop_zero]
  split
  ·split <;> rfl
  ·rfl
 rw [h2]
 refine r_valids l (by omega) hl.all _ (fun ha => ?_) l.length 0 (by omega) (fun j hj => by omega)
 have := r_order1 l (by omega) (fun h hm => ⟨hl.all h hm, List.all_eq_true.mp ha h hm⟩) l.length 0 0 0 false false (by omega) (by omega) (by omega)
 rw [List.drop_zero] at this
 exact this
end Go.Proofs.YtecjoofjiockkaaGreatDoor.Pure
namespace Go.Proofs.YtecjoofjiockkaaGreatDoor.Pure
open Go.RowKit Go.Proofs.YtecjoofjiockkaaGreatDoor.Pp Go.Proofs.YtecjoofjiockkaaGreatDoor.Ext Go.Proofs.YtecjoofjiockkaaGreatDoorW.PrintWords Go.Proofs.YtecjoofjiockkaaGreatDoorW.PrintLast Go.Proofs.YtecjoofjiockkaaGreatDoorW.PrintMore
theorem drop49 (s : List S49) (i : Nat) (h : i < s.length) : s.drop i = rd_T49 s (i : Int) :: s.drop (i + 1) := by
 unfold rd_T49
 rw [Int.toNat_natCast, List.getD_eq_getElem?_getD, List.getElem?_eq_getElem h]
 exact List.drop_eq_getElem_cons h
def okC (n m a b : Int) (c : S49) : Prop :=
 0 ≤ c.f1 ∧ 0 ≤ c.f3 ∧ (c.f1 ≠ 0 ∨ c.f3 ≠ 0) ∧ a ≤ c.f0 ∧ c.f0 ≤ n ∧ b ≤ c.f2 ∧ c.f2 ≤ m ∧ c.f0 - a = c.f2 - b ∧ c.f1 ≤ n - c.f0 ∧ c.f3 ≤ m - c.f2
def qB (n m : Int) : List S49 → Int → Int → Prop
 | [], a, b => n - a = m - b
 | c :: t, a, b => okC n m a b c ∧ qB n m t (c.f0 + c.f1) (c.f2 + c.f3)
open Classical in
noncomputable def errP (p : Prop) : Option Int := if p then none else some 60
theorem errP_pos {p : Prop} (h : p) : errP p = none := by unfold errP; rw [if_pos h]
theorem errP_neg {p : Prop} (h : ¬ p) : errP p = some 60 := by unfold errP; rw [if_neg h]
set_option maxHeartbeats 1000000 in
theorem valid_step (n m a b : Int) (s : List S49) (i : Nat) (hi : i < s.length) (hs : s.length ≤ 4000000000) (hn : n ≤ 4194304) (hm : m ≤ 4194304) (ha : 0 ≤ a) (hb : 0 ≤ b) (k : Nat) :
  (okC n m a b (rd_T49 s (i : Int)) → edits_Valid.l0 (k + 1) n m a b s (s.length : Int) (i : Int) = edits_Valid.l0 k n m ((rd_T49 s (i : Int)).f0 + (rd_T49 s (i : Int)).f1) ((rd_T49 s (i : Int)).f2 + (rd_T49 s (i : Int)).f3) s (s.length : Int) ((i + 1 : Nat) : Int)) ∧
  (¬ okC n m a b (rd_T49 s (i : Int)) → edits_Valid.l0 (k + 1) n m a b s (s.length : Int) (i : Int) = some (some 60)) := by
 have w1 : wrap64 ((i : Int) + 1) = ((i + 1 : Nat) : Int) := w_add i 1 (by omega)
 generalize hc : rd_T49 s (i : Int) = c
 constructor
 ·rintro ⟨h1, h2, h3, h4, h5, h6, h7, h8, h9, h10⟩
  have e1 : wrap64 (c.f0 - a) = c.f0 - a := w64' (by omega) (by omega)
  have e2 : wrap64 (c.f2 - b) = c.f2 - b := w64' (by omega) (by omega)
  have e3 : wrap64 (n - c.f0) = n - c.f0 := w64' (by omega) (by omega)
  have e4 : wrap64 (m - c.f2) = m - c.f2 := w64' (by omega) (by omega)
  have e5 : wrap64 (c.f0 + c.f1) = c.f0 + c.f1 := w64' (by omega) (by omega)
  have e6 : wrap64 (c.f2 + c.f3) = c.f2 + c.f3 := w64' (by omega) (by omega)
  simp only [edits_Valid.l0, hc, w1, e1, e2, e3, e4, e5, e6]
  rw [if_pos (by omega), if_pos (by omega), if_pos (by omega), if_neg (by omega), if_neg (by omega)]
  by_cases z : c.f1 = 0
  ·rw [if_pos z, if_neg (by omega), if_neg (by omega), if_neg (by omega), if_neg (by omega), if_neg (by omega), if_pos h8, if_neg (by omega), if_neg (by omega)]
  ·rw [if_neg z, if_neg (by omega), if_neg (by omega), if_neg (by omega), if_neg (by omega), if_pos h8, if_neg (by omega), if_neg (by omega)]
 ·intro hno
  simp only [edits_Valid.l0, hc]
  rw [if_pos (by omega), if_pos (by omega), if_pos (by omega)]
  by_cases q1 : c.f1 < 0
  ·rw [if_pos q1]
  rw [if_neg q1]
  by_cases q2 : c.f3 < 0
  ·rw [if_pos q2]
  rw [if_neg q2]
  by_cases z : c.f1 = 0
  ·rw [if_pos z]
   by_cases z3 : c.f3 = 0
   ·rw [if_pos z3]
   rw [if_neg z3]
   by_cases q3 : c.f0 < a
   ·rw [if_pos q3]
   rw [if_neg q3]
   by_cases q4 : c.f0 > n
   ·rw [if_pos q4]
   rw [if_neg q4]
   by_cases q5 : c.f2 < b
   ·rw [if_pos q5]
   rw [if_neg q5]
   by_cases q6 : c.f2 > m
   ·rw [if_pos q6]
   rw [if_neg q6]
   have e1 : wrap64 (c.f0 - a) = c.f0 - a := w64' (by omega) (by omega)
   have e2 : wrap64 (c.f2 - b) = c.f2 - b := w64' (by omega) (by omega)
   have e3 : wrap64 (n - c.f0) = n - c.f0 := w64' (by omega) (by omega)
   have e4 : wrap64 (m - c.f2) = m - c.f2 := w64' (by omega) (by omega)
   rw [e1, e2]
   by_cases q7 : c.f0 - a = c.f2 - b
   case neg => rw [if_neg q7]
   rw [if_pos q7, e3]
   by_cases q8 : c.f1 > n - c.f0
   ·rw [if_pos q8]
   rw [if_neg q8]
   rw [e4]
   by_cases q9 : c.f3 > m - c.f2
   ·rw [if_pos q9]
   rw [if_neg q9]
   exact absurd ⟨by omega, by omega, by omega, by omega, by omega, by omega, by omega, q7, by omega, by omega⟩ hno
  ·rw [if_neg z]
   by_cases q3 : c.f0 < a
   ·rw [if_pos q3]
   rw [if_neg q3]
   by_cases q4 : c.f0 > n
   ·rw [if_pos q4]
   rw [if_neg q4]
   by_cases q5 : c.f2 < b
   ·rw [if_pos q5]
   rw [if_neg q5]
   by_cases q6 : c.f2 > m
   ·rw [if_pos q6]
   rw [if_neg q6]
   have e1 : wrap64 (c.f0 - a) = c.f0 - a := w64' (by omega) (by omega)
   have e2 : wrap64 (c.f2 - b) = c.f2 - b := w64' (by omega) (by omega)
   have e3 : wrap64 (n - c.f0) = n - c.f0 := w64' (by omega) (by omega)
   have e4 : wrap64 (m - c.f2) = m - c.f2 := w64' (by omega) (by omega)
   rw [e1, e2]
   by_cases q7 : c.f0 - a = c.f2 - b
   case neg => rw [if_neg q7]
   rw [if_pos q7, e3]
   by_cases q8 : c.f1 > n - c.f0
   ·rw [if_pos q8]
   rw [if_neg q8]
   rw [e4]
   by_cases q9 : c.f3 > m - c.f2
   ·rw [if_pos q9]
   rw [if_neg q9]
   exact absurd ⟨by omega, by omega, by omega, by omega, by omega, by omega, by omega, q7, by omega, by omega⟩ hno
theorem valid_loop (n m : Int) (s : List S49) (hs : s.length ≤ 4000000000) (hn : n ≤ 4194304) (hm : m ≤ 4194304) (d : Nat) : ∀ (i : Nat) (a b : Int), i + d = s.length → 0 ≤ a → a ≤ n → 0 ≤ b → b ≤ m →
  Ev (fun k => edits_Valid.l0 k n m a b s (s.length : Int) (i : Int)) (errP (qB n m (s.drop i) a b)) := by
 induction d with
 | zero =>
  intro i a b hd ha han hb hbm
  rw [List.drop_of_length_le (by omega)]
  refine Ev.step (f := fun _ => some (errP (qB n m [] a b))) (fun k => ?_) (Ev.pure _)
  have e1 : wrap64 (n - a) = n - a := w64' (by omega) (by omega)
  have e2 : wrap64 (m - b) = m - b := w64' (by omega) (by omega)
  simp only [edits_Valid.l0, e1, e2]
  rw [if_neg (by omega)]
  by_cases h : n - a = m - b
  ·rw [if_pos h, errP_pos (show qB n m [] a b from h)]
  ·rw [if_neg h, errP_neg (show ¬ qB n m [] a b from h)]
 | succ d ih =>
  intro i a b hd ha han hb hbm
  have hst := fun k => valid_step n m a b s i (by omega) hs hn hm ha hb k
  rw [drop49 s i (by omega)]
  by_cases h : okC n m a b (rd_T49 s (i : Int))
  ·refine Ev.step (fun k => (hst k).1 h) ?_
   have hk := h
   obtain ⟨h1, h2, h3, h4, h5, h6, h7, h8, h9, h10⟩ := hk
   have := ih (i + 1) ((rd_T49 s (i : Int)).f0 + (rd_T49 s (i : Int)).f1) ((rd_T49 s (i : Int)).f2 + (rd_T49 s (i : Int)).f3) (by omega) (by omega) (by omega) (by omega) (by omega)
   have e : qB n m (rd_T49 s (i : Int) :: s.drop (i + 1)) a b = qB n m (s.drop (i + 1)) ((rd_T49 s (i : Int)).f0 + (rd_T49 s (i : Int)).f1) ((rd_T49 s (i : Int)).f2 + (rd_T49 s (i : Int)).f3) := propext ⟨fun x => x.2, fun x => ⟨h, x⟩⟩
   rw [e]
   exact this
  ·refine Ev.step (f := fun _ => some (some 60)) (fun k => (hst k).2 h) ?_
   rw [errP_neg (fun x => h x.1)]
   exact Ev.pure _
noncomputable def validS (s : List S49) (n m : Int) : Option Int := if n > 4194304 ∨ m > 4194304 then some 1 else errP (qB n m s 0 0)
theorem valid_at (s : List S49) (hs : s.length ≤ 4000000000) (n m : Int) (hn : 0 ≤ n) (hm : 0 ≤ m) : Ev (fun k => edits_Valid.f k s n m) (validS s n m) := by
 unfold validS
 have jt : Ev (fun k => edits_Valid.j0 k s n m true) (some 1) := Ev.step (f := fun _ => some (some 1)) (fun k => by simp [edits_Valid.j0]) (Ev.pure _)
 by_cases h1 : n > 4194304
 ·rw [if_pos (Or.inl h1)]
  refine Ev.same (fun k => ?_) jt
  unfold edits_Valid.f
  rw [if_neg (by omega), if_pos h1]
 ·by_cases h2 : m > 4194304
  ·rw [if_pos (Or.inr h2)]
   refine Ev.same (fun k => ?_) jt
   unfold edits_Valid.f
   rw [if_neg (by omega), if_neg h1, if_neg (by omega), decide_eq_true h2]
  ·rw [if_neg (by omega)]
   refine Ev.same (G := fun k => edits_Valid.j0 k s n m false) (fun k => ?_) ?_
   ·unfold edits_Valid.f
    rw [if_neg (by omega), if_neg h1, if_neg (by omega), decide_eq_false h2]
   ·refine Ev.step (f := fun k => edits_Valid.l0 k n m 0 0 s (s.length : Int) 0) (fun k => by simp [edits_Valid.j0]) ?_
    exact valid_loop n m s hs (by omega) (by omega) s.length 0 0 0 (by omega) (by omega) hn (by omega) hm
def num (o : Option Int) : Int := o.getD 0
set_option maxHeartbeats 1000000 in
theorem rvalid_step (n m a b : Int) (s : List S49) (i : Nat) (hi : i < s.length) (hs : s.length ≤ 4000000000) (hn : n ≤ 4194304) (hm : m ≤ 4194304) (ha : 0 ≤ a) (hb : 0 ≤ b) (k : Nat) :
  (okC n m a b (rd_T49 s (i : Int)) → selvageref06_Valid.l0 (k + 1) s n m a b (i : Int) = selvageref06_Valid.l0 k s n m ((rd_T49 s (i : Int)).f0 + (rd_T49 s (i : Int)).f1) ((rd_T49 s (i : Int)).f2 + (rd_T49 s (i : Int)).f3) ((i + 1 : Nat) : Int)) ∧
  (¬ okC n m a b (rd_T49 s (i : Int)) → selvageref06_Valid.l0 (k + 1) s n m a b (i : Int) = some 60) := by
 have w1 : wrap64 ((i : Int) + 1) = ((i + 1 : Nat) : Int) := w_add i 1 (by omega)
 generalize hc : rd_T49 s (i : Int) = c
 constructor
 ·rintro ⟨h1, h2, h3, h4, h5, h6, h7, h8, h9, h10⟩
  have e1 : wrap64 (c.f0 - a) = c.f0 - a := w64' (by omega) (by omega)
  have e2 : wrap64 (c.f2 - b) = c.f2 - b := w64' (by omega) (by omega)
  have e3 : wrap64 (n - c.f0) = n - c.f0 := w64' (by omega) (by omega)
  have e4 : wrap64 (m - c.f2) = m - c.f2 := w64' (by omega) (by omega)
  have e5 : wrap64 (c.f0 + c.f1) = c.f0 + c.f1 := w64' (by omega) (by omega)
  have e6 : wrap64 (c.f2 + c.f3) = c.f2 + c.f3 := w64' (by omega) (by omega)
  simp only [selvageref06_Valid.l0, hc, w1, e1, e2, e3, e4, e5, e6]
  rw [if_pos (by omega), if_pos (by omega), if_neg (by omega), if_neg (by omega), if_neg (by omega), if_neg (by omega), if_pos h8, if_neg (by omega), if_neg (by omega), if_neg (by omega), if_neg (by omega)]
  by_cases z : c.f1 = 0
  ·rw [if_pos z, if_neg (by omega)]
  ·rw [if_neg z]
 ·intro hno
  simp only [selvageref06_Valid.l0, hc]
  rw [if_pos (by omega), if_pos (by omega)]
  by_cases q3 : c.f0 < a
  ·rw [if_pos q3]
  rw [if_neg q3]
  by_cases q5 : c.f2 < b
  ·rw [if_pos q5]
  rw [if_neg q5]
  by_cases q4 : c.f0 > n
  ·rw [if_pos q4]
  rw [if_neg q4]
  by_cases q6 : c.f2 > m
  ·rw [if_pos q6]
  rw [if_neg q6]
  have e1 : wrap64 (c.f0 - a) = c.f0 - a := w64' (by omega) (by omega)
  have e2 : wrap64 (c.f2 - b) = c.f2 - b := w64' (by omega) (by omega)
  have e3 : wrap64 (n - c.f0) = n - c.f0 := w64' (by omega) (by omega)
  have e4 : wrap64 (m - c.f2) = m - c.f2 := w64' (by omega) (by omega)
  rw [e1, e2]
  by_cases q7 : c.f0 - a = c.f2 - b
  case neg => rw [if_neg q7]
  rw [if_pos q7]
  by_cases q1 : c.f1 < 0
  ·rw [if_pos q1]
  rw [if_neg q1]
  by_cases q2 : c.f3 < 0
  ·rw [if_pos q2]
  rw [if_neg q2]
  rw [e3]
  by_cases q8 : c.f1 > n - c.f0
  ·rw [if_pos q8]
  rw [if_neg q8]
  rw [e4]
  by_cases q9 : c.f3 > m - c.f2
  ·rw [if_pos q9]
  rw [if_neg q9]
  by_cases z : c.f1 = 0
  ·rw [if_pos z]
   by_cases z3 : c.f3 = 0
   ·rw [if_pos z3]
   rw [if_neg z3]
   exact absurd ⟨by omega, by omega, by omega, by omega, by omega, by omega, by omega, q7, by omega, by omega⟩ hno
  ·exact absurd ⟨by omega, by omega, by omega, by omega, by omega, by omega, by omega, q7, by omega, by omega⟩ hno
theorem rvalid_loop (n m : Int) (s : List S49) (hs : s.length ≤ 4000000000) (hn : n ≤ 4194304) (hm : m ≤ 4194304) (d : Nat) : ∀ (i : Nat) (a b : Int), i + d = s.length → 0 ≤ a → a ≤ n → 0 ≤ b → b ≤ m →
  Ev (fun k => selvageref06_Valid.l0 k s n m a b (i : Int)) (num (errP (qB n m (s.drop i) a b))) := by
 induction d with
 | zero =>
  intro i a b hd ha han hb hbm
  rw [List.drop_of_length_le (by omega)]
  refine Ev.step (f := fun _ => some (num (errP (qB n m [] a b)))) (fun k => ?_) (Ev.pure _)
  have e1 : wrap64 (n - a) = n - a := w64' (by omega) (by omega)
  have e2 : wrap64 (m - b) = m - b := w64' (by omega) (by omega)
  simp only [selvageref06_Valid.l0, e1, e2]
  rw [if_neg (by omega)]
  by_cases h : n - a = m - b
  ·rw [if_pos h, errP_pos (show qB n m [] a b from h)]; rfl
  ·rw [if_neg h, errP_neg (show ¬ qB n m [] a b from h)]; rfl
 | succ d ih =>
  intro i a b hd ha han hb hbm
  have hst := fun k => rvalid_step n m a b s i (by omega) hs hn hm ha hb k
  rw [drop49 s i (by omega)]
  by_cases h : okC n m a b (rd_T49 s (i : Int))
  ·refine Ev.step (fun k => (hst k).1 h) ?_
   have hk := h
   obtain ⟨h1, h2, h3, h4, h5, h6, h7, h8, h9, h10⟩ := hk
   have := ih (i + 1) ((rd_T49 s (i : Int)).f0 + (rd_T49 s (i : Int)).f1) ((rd_T49 s (i : Int)).f2 + (rd_T49 s (i : Int)).f3) (by omega) (by omega) (by omega) (by omega) (by omega)
   have e : qB n m (rd_T49 s (i : Int) :: s.drop (i + 1)) a b = qB n m (s.drop (i + 1)) ((rd_T49 s (i : Int)).f0 + (rd_T49 s (i : Int)).f1) ((rd_T49 s (i : Int)).f2 + (rd_T49 s (i : Int)).f3) := propext ⟨fun x => x.2, fun x => ⟨h, x⟩⟩
   rw [e]
   exact this
  ·refine Ev.step (f := fun _ => some 60) (fun k => (hst k).2 h) ?_
   rw [errP_neg (fun x => h x.1)]
   exact Ev.pure _
theorem rvalid_at (s : List S49) (hs : s.length ≤ 4000000000) (n m : Int) (hn : 0 ≤ n) (hm : 0 ≤ m) : Ev (fun k => selvageref06_Valid.f k s n m) (num (validS s n m)) := by
 unfold validS
 have jt : Ev (fun k => selvageref06_Valid.j0 k s n m true) 1 := Ev.step (f := fun _ => some 1) (fun k => by simp [selvageref06_Valid.j0]) (Ev.pure _)
 by_cases h1 : n > 4194304
 ·rw [if_pos (Or.inl h1)]
  refine Ev.same (fun k => ?_) jt
  unfold selvageref06_Valid.f
  rw [if_neg (by omega), if_pos h1]
 ·by_cases h2 : m > 4194304
  ·rw [if_pos (Or.inr h2)]
   refine Ev.same (fun k => ?_) jt
   unfold selvageref06_Valid.f
   rw [if_neg (by omega), if_neg h1, if_neg (by omega), decide_eq_true h2]
  ·rw [if_neg (by omega)]
   refine Ev.same (G := fun k => selvageref06_Valid.j0 k s n m false) (fun k => ?_) ?_
   ·unfold selvageref06_Valid.f
    rw [if_neg (by omega), if_neg h1, if_neg (by omega), decide_eq_false h2]
   ·refine Ev.step (f := fun k => selvageref06_Valid.l0 k s n m 0 0 0) (fun k => by simp [selvageref06_Valid.j0]) ?_
    exact rvalid_loop n m s hs (by omega) (by omega) s.length 0 0 0 (by omega) (by omega) hn (by omega) hm
end Go.Proofs.YtecjoofjiockkaaGreatDoor.Pure
namespace Go.Proofs.YtecjoofjiockkaaGreatDoor.Pure
open Go.RowKit Go.Proofs.YtecjoofjiockkaaGreatDoor.Pp Go.Proofs.YtecjoofjiockkaaGreatDoor.Ext Go.Proofs.YtecjoofjiockkaaGreatDoorW.PrintWords Go.Proofs.YtecjoofjiockkaaGreatDoorW.PrintLast Go.Proofs.YtecjoofjiockkaaGreatDoorW.PrintMore
theorem drop94 (s : List S94) (i : Nat) (h : i < s.length) : s.drop i = rd_T94 s (i : Int) :: s.drop (i + 1) := by
 unfold rd_T94
 rw [Int.toNat_natCast, List.getD_eq_getElem?_getD, List.getElem?_eq_getElem h]
 exact List.drop_eq_getElem_cons h
def runP (a b : Int) : Nat → List S94
 | 0 => []
 | d + 1 => ⟨a, b⟩ :: runP (a + 1) (b + 1) d
theorem runP_length (d : Nat) : ∀ a b, (runP a b d).length = d := by
 induction d with
 | zero => intro a b; rfl
 | succ d ih => intro a b; simp only [runP, List.length_cons, ih]
def pairsL (n : Int) : List S49 → Int → Int → List S94
 | [], a, b => runP a b (n - a).toNat
 | c :: t, a, b => runP a b (c.f0 - a).toNat ++ pairsL n t (c.f0 + c.f1) (c.f2 + c.f3)
theorem pairsL_length (n m : Int) : ∀ (s : List S49) (a b : Int), qB n m s a b → a ≤ n → ((pairsL n s a b).length : Int) ≤ n - a
 | [], a, b, _, h => by
  simp only [pairsL, runP_length]; omega
 | c :: t, a, b, hv, h => by
  obtain ⟨⟨h1, h2, h3, h4, h5, h6, h7, h8, h9, h10⟩, hv2⟩ := hv
  have := pairsL_length n m t (c.f0 + c.f1) (c.f2 + c.f3) hv2 (by omega)
  simp only [pairsL, List.length_append, runP_length]
  omega
theorem pairs_inner (s : List S49) (n : Int) (i : Nat) (tt : Int) (htt : tt ≤ 4194304) {v : List S94} (d : Nat) : ∀ (out : List S94) (a b : Int), a + (d : Int) = tt → 0 ≤ a → 0 ≤ b → b + (d : Int) ≤ 4194304 → out.length + d ≤ 8000000 →
  Ev (fun k => if (i : Int) < (s.length : Int) then (if 0 ≤ (i : Int) then selvageref06_pairs.l0 k s n (out ++ runP a b d) (wrap64 ((rd_T49 s (i : Int)).f0 + (rd_T49 s (i : Int)).f1)) (wrap64 ((rd_T49 s (i : Int)).f2 + (rd_T49 s (i : Int)).f3)) (wrap64 ((i : Int) + 1)) else none)
   else selvageref06_pairs.l0 k s n (out ++ runP a b d) tt (b + (d : Int)) (wrap64 ((i : Int) + 1))) v →
  Ev (fun k => selvageref06_pairs.l1 k s n out a b (i : Int) tt) v := by
 induction d with
 | zero =>
  intro out a b h ha hb hb2 ho he
  refine Ev.step (fun k => ?_) he
  obtain rfl : a = tt := by omega
  simp only [selvageref06_pairs.l1, runP, List.append_nil]
  rw [if_neg (by omega), show b + ((0 : Nat) : Int) = b by omega]
 | succ d ih =>
  intro out a b h ha hb hb2 ho he
  have e1 : wrap64 (a + 1) = a + 1 := w64' (by omega) (by omega)
  have e2 : wrap64 (b + 1) = b + 1 := w64' (by omega) (by omega)
  refine Ev.step (f := fun k => selvageref06_pairs.l1 k s n (out ++ [⟨a, b⟩]) (a + 1) (b + 1) (i : Int) tt) (fun k => ?_) (ih (out ++ [⟨a, b⟩]) (a + 1) (b + 1) (by omega) (by omega) (by omega) (by omega) (by rw [List.length_append, List.length_singleton]; omega) ?_)
  ·simp only [selvageref06_pairs.l1, e1, e2]
   rw [if_pos (by omega), if_pos (by omega)]
  ·have e : (out ++ [(⟨a, b⟩ : S94)]) ++ runP (a + 1) (b + 1) d = out ++ runP a b (d + 1) := by rw [List.append_assoc]; rfl
   rw [e, show b + 1 + (d : Int) = b + ((d + 1 : Nat) : Int) by omega]
   exact he
theorem pairs_loop (s : List S49) (n m : Int) (hn : n ≤ 4194304) (hm : m ≤ 4194304) (hs : s.length ≤ 4000000000) (d : Nat) : ∀ (i : Nat) (out : List S94) (a b : Int), i + d = s.length → qB n m (s.drop i) a b → 0 ≤ a → a ≤ n → 0 ≤ b → b ≤ m → (out.length : Int) ≤ a →
  Ev (fun k => selvageref06_pairs.l0 k s n out a b (i : Int)) (out ++ pairsL n (s.drop i) a b) := by
 have w1 : ∀ i : Nat, i ≤ 4000000000 → wrap64 ((i : Int) + 1) = ((i + 1 : Nat) : Int) := fun i h => w_add i 1 (by omega)
 induction d with
 | zero =>
  intro i out a b hd hv ha han hb hbm ho
  rw [List.drop_of_length_le (by omega)] at hv ⊢
  have hv' : n - a = m - b := hv
  refine Ev.step (f := fun k => selvageref06_pairs.j1 k s n out a b (i : Int) n) (fun k => ?_) ?_
  ·simp only [selvageref06_pairs.l0]
   rw [if_pos (by omega), if_neg (by omega)]
  ·refine Ev.step (f := fun k => selvageref06_pairs.l1 k s n out a b (i : Int) n) (fun k => by simp only [selvageref06_pairs.j1]) ?_
   refine pairs_inner s n i n hn (n - a).toNat out a b (by omega) ha hb (by omega) (by omega) ?_
   refine Ev.same (G := fun k => selvageref06_pairs.l0 k s n (out ++ runP a b (n - a).toNat) n (b + ((n - a).toNat : Int)) ((i + 1 : Nat) : Int)) (fun k => ?_) ?_
   ·rw [if_neg (by omega), w1 i (by omega)]
   ·refine Ev.step (f := fun _ => some (out ++ runP a b (n - a).toNat)) (fun k => ?_) (Ev.pure _)
    simp only [selvageref06_pairs.l0]
    rw [if_neg (by omega)]
 | succ d ih =>
  intro i out a b hd hv ha han hb hbm ho
  rw [drop49 s i (by omega)] at hv ⊢
  obtain ⟨⟨h1, h2, h3, h4, h5, h6, h7, h8, h9, h10⟩, hv2⟩ := hv
  have e5 : wrap64 ((rd_T49 s (i : Int)).f0 + (rd_T49 s (i : Int)).f1) = (rd_T49 s (i : Int)).f0 + (rd_T49 s (i : Int)).f1 := w64' (by omega) (by omega)
  have e6 : wrap64 ((rd_T49 s (i : Int)).f2 + (rd_T49 s (i : Int)).f3) = (rd_T49 s (i : Int)).f2 + (rd_T49 s (i : Int)).f3 := w64' (by omega) (by omega)
  refine Ev.step (f := fun k => selvageref06_pairs.j1 k s n out a b (i : Int) (rd_T49 s (i : Int)).f0) (fun k => ?_) ?_
  ·simp only [selvageref06_pairs.l0]
   rw [if_pos (by omega), if_pos (by omega), if_pos (by omega)]
  ·refine Ev.step (f := fun k => selvageref06_pairs.l1 k s n out a b (i : Int) (rd_T49 s (i : Int)).f0) (fun k => by simp only [selvageref06_pairs.j1]) ?_
   refine pairs_inner s n i _ (by omega) ((rd_T49 s (i : Int)).f0 - a).toNat out a b (by omega) ha hb (by omega) (by omega) ?_
   refine Ev.same (G := fun k => selvageref06_pairs.l0 k s n (out ++ runP a b ((rd_T49 s (i : Int)).f0 - a).toNat) ((rd_T49 s (i : Int)).f0 + (rd_T49 s (i : Int)).f1) ((rd_T49 s (i : Int)).f2 + (rd_T49 s (i : Int)).f3) ((i + 1 : Nat) : Int)) (fun k => ?_) ?_
   ·rw [if_pos (by omega), if_pos (by omega), w1 i (by omega), e5, e6]
   ·have := ih (i + 1) (out ++ runP a b ((rd_T49 s (i : Int)).f0 - a).toNat) _ _ (by omega) hv2 (by omega) (by omega) (by omega) (by omega) (by rw [List.length_append, runP_length]; omega)
    rw [List.append_assoc] at this
    exact this
def gap (a b x y : Int) : List S49 := if a < x ∨ b < y then [⟨a, x - a, b, y - b⟩] else []
theorem gap_none (a b : Int) : gap a b a b = [] := by unfold gap; rw [if_neg (by omega)]
theorem gap_some {a b x y : Int} (h : a < x ∨ b < y) : gap a b x y = [⟨a, x - a, b, y - b⟩] := by unfold gap; rw [if_pos h]
def ofS (n m : Int) : List S94 → Int → Int → List S49
 | [], a, b => gap a b n m
 | p :: t, a, b => gap a b p.f0 p.f1 ++ ofS n m t (p.f0 + 1) (p.f1 + 1)
def inO (n m : Int) : List S94 → Int → Int → Prop
 | [], _, _ => True
 | p :: t, a, b => a ≤ p.f0 ∧ b ≤ p.f1 ∧ p.f0 < n ∧ p.f1 < m ∧ inO n m t (p.f0 + 1) (p.f1 + 1)
theorem inO_weaken {n m : Int} {l : List S94} {a b a' b' : Int} (h : inO n m l a b) (ha : a' ≤ a) (hb : b' ≤ b) : inO n m l a' b' := by
 cases l with
 | nil => exact trivial
 | cons p t => obtain ⟨h1, h2, h3⟩ := h; exact ⟨by omega, by omega, h3⟩
theorem inO_run {n m : Int} {rest : List S94} (d : Nat) : ∀ (a b pa pb : Int), pa ≤ a → pb ≤ b → a + (d : Int) ≤ n → b + (d : Int) ≤ m → inO n m rest (a + (d : Int)) (b + (d : Int)) → inO n m (runP a b d ++ rest) pa pb := by
 induction d with
 | zero => intro a b pa pb h1 h2 h3 h4 h; exact inO_weaken h (by omega) (by omega)
 | succ d ih =>
  intro a b pa pb h1 h2 h3 h4 h
  refine ⟨h1, h2, by show a < n; omega, by show b < m; omega, ih (a + 1) (b + 1) (a + 1) (b + 1) (by omega) (by omega) (by omega) (by omega) ?_⟩
  rw [show a + 1 + (d : Int) = a + ((d + 1 : Nat) : Int) by omega, show b + 1 + (d : Int) = b + ((d + 1 : Nat) : Int) by omega]
  exact h
theorem inO_pairs (n m : Int) : ∀ (s : List S49) (a b : Int), qB n m s a b → a ≤ n → b ≤ m → inO n m (pairsL n s a b) a b
 | [], a, b, hv, ha, hb => by
  have hv' : n - a = m - b := hv
  have := inO_run (n := n) (m := m) (rest := []) (n - a).toNat a b a b (by omega) (by omega) (by omega) (by omega) trivial
  rw [List.append_nil] at this
  exact this
 | c :: t, a, b, hv, ha, hb => by
  obtain ⟨⟨h1, h2, h3, h4, h5, h6, h7, h8, h9, h10⟩, hv2⟩ := hv
  exact inO_run (c.f0 - a).toNat a b a b (by omega) (by omega) (by omega) (by omega) (inO_weaken (inO_pairs n m t _ _ hv2 (by omega) (by omega)) (by omega) (by omega))
theorem of_loop (n m : Int) (hn0 : 0 ≤ n) (hm0 : 0 ≤ m) (hn : n ≤ 4194304) (hm : m ≤ 4194304) (l : List S94) (hl : l.length ≤ 8000000) (d : Nat) : ∀ (i : Nat) (out : List S49) (a b : Int), i + d = l.length → inO n m (l.drop i) a b → 0 ≤ a → a ≤ n → 0 ≤ b → b ≤ m → out.length ≤ i →
  Ev (fun k => selvageref06_Of.l0 k l n m out a b (i : Int)) (out ++ ofS n m (l.drop i) a b, 0) := by
 have w1 : ∀ i : Nat, i ≤ 8000000 → wrap64 ((i : Int) + 1) = ((i + 1 : Nat) : Int) := fun i h => w_add i 1 (by omega)
 have wn : wrap64 (n + 1) = n + 1 := w64' (by omega) (by omega)
 have wm : wrap64 (m + 1) = m + 1 := w64' (by omega) (by omega)
 induction d with
 | zero =>
  intro i out a b hd hv ha han hb hbm ho
  rw [List.drop_of_length_le (by omega)]
  have e1 : wrap64 (n - a) = n - a := w64' (by omega) (by omega)
  have e2 : wrap64 (m - b) = m - b := w64' (by omega) (by omega)
  have last : ∀ o : List S49, Ev (fun k => selvageref06_Of.l0 k l n m o (n + 1) (m + 1) ((i + 1 : Nat) : Int)) (o, 0) := fun o =>
   Ev.step (f := fun _ => some (o, 0)) (fun k => by simp only [selvageref06_Of.l0]; rw [if_neg (by omega)]) (Ev.pure _)
  refine Ev.step (fun k => ?_) (last (out ++ gap a b n m))
  simp only [selvageref06_Of.l0, e1, e2, wn, wm, w1 i (by omega)]
  rw [if_pos (by omega), if_neg (by omega)]
  by_cases h1 : n > a
  ·rw [if_pos h1, if_pos (by omega), gap_some (Or.inl h1)]
  ·rw [if_neg h1]
   by_cases h2 : m > b
   ·rw [if_pos h2, if_pos (by omega), gap_some (Or.inr h2)]
   ·rw [if_neg h2]
    unfold gap
    rw [if_neg (by omega), List.append_nil]
 | succ d ih =>
  intro i out a b hd hv ha han hb hbm ho
  rw [drop94 l i (by omega)] at hv ⊢
  obtain ⟨h1, h2, h3, h4, hv2⟩ := hv
  generalize hp : rd_T94 l (i : Int) = p at h1 h2 h3 h4 hv2 ⊢
  have e1 : wrap64 (p.f0 - a) = p.f0 - a := w64' (by omega) (by omega)
  have e2 : wrap64 (p.f1 - b) = p.f1 - b := w64' (by omega) (by omega)
  have e3 : wrap64 (p.f0 + 1) = p.f0 + 1 := w64' (by omega) (by omega)
  have e4 : wrap64 (p.f1 + 1) = p.f1 + 1 := w64' (by omega) (by omega)
  refine Ev.step (f := fun k => selvageref06_Of.j2 k l n m out a b (i : Int) p.f0 p.f1 false) (fun k => ?_) ?_
  ·simp only [selvageref06_Of.l0, hp]
   rw [if_pos (by omega), if_pos (by omega), if_pos (by omega), if_neg (by omega), if_neg (by omega), if_neg (by omega), decide_eq_false (by omega)]
  ·have := ih (i + 1) (out ++ gap a b p.f0 p.f1) (p.f0 + 1) (p.f1 + 1) (by omega) hv2 (by omega) (by omega) (by omega) (by omega) (by
    rw [List.length_append]; unfold gap; split <;> simp <;> omega)
   rw [List.append_assoc] at this
   refine Ev.step (fun k => ?_) this
   simp only [selvageref06_Of.j2, e1, e2, e3, e4, w1 i (by omega)]
   rw [if_neg (by simp)]
   by_cases q1 : p.f0 > a
   ·rw [if_pos q1, if_pos (by omega), gap_some (Or.inl q1)]
   ·rw [if_neg q1]
    by_cases q2 : p.f1 > b
    ·rw [if_pos q2, if_pos (by omega), gap_some (Or.inr q2)]
    ·rw [if_neg q2]
     unfold gap
     rw [if_neg (by omega), List.append_nil]
theorem of_run (n m : Int) (rest : List S94) (d : Nat) : ∀ (a b pa pb : Int), ofS n m (runP a b (d + 1) ++ rest) pa pb = gap pa pb a b ++ ofS n m rest (a + (d : Int) + 1) (b + (d : Int) + 1) := by
 induction d with
 | zero => intro a b pa pb; rw [show a + ((0 : Nat) : Int) + 1 = a + 1 by omega, show b + ((0 : Nat) : Int) + 1 = b + 1 by omega]; rfl
 | succ d ih =>
  intro a b pa pb
  have := ih (a + 1) (b + 1) (a + 1) (b + 1)
  rw [gap_none, List.nil_append] at this
  rw [show a + ((d + 1 : Nat) : Int) + 1 = a + 1 + (d : Int) + 1 by omega, show b + ((d + 1 : Nat) : Int) + 1 = b + 1 + (d : Int) + 1 by omega, ← this]
  rfl
def nrm : List S49 → Int → Int → Int → Int → List S49
 | [], pa, pb, qa, qb => gap pa pb qa qb
 | c :: t, pa, pb, qa, qb => if qa < c.f0 then gap pa pb qa qb ++ nrm t c.f0 c.f2 (c.f0 + c.f1) (c.f2 + c.f3) else nrm t pa pb (c.f0 + c.f1) (c.f2 + c.f3)
theorem of_pairs (n m : Int) : ∀ (s : List S49) (pa pb qa qb : Int), qB n m s qa qb → qa ≤ n → ofS n m (pairsL n s qa qb) pa pb = nrm s pa pb qa qb
 | [], pa, pb, qa, qb, hv, h => by
  have hv' : n - qa = m - qb := hv
  simp only [pairsL, nrm]
  obtain ⟨d, hd⟩ : ∃ d, (n - qa).toNat = d := ⟨_, rfl⟩
  rw [hd]
  cases d with
  | zero =>
   obtain rfl : n = qa := by omega
   obtain rfl : m = qb := by omega
   rfl
  | succ d =>
   have := of_run n m [] d qa qb pa pb
   rw [List.append_nil] at this
   rw [this, show qa + (d : Int) + 1 = n by omega, show qb + (d : Int) + 1 = m by omega]
   show _ ++ gap n m n m = _
   rw [gap_none, List.append_nil]
 | c :: t, pa, pb, qa, qb, hv, h => by
  obtain ⟨⟨h1, h2, h3, h4, h5, h6, h7, h8, h9, h10⟩, hv2⟩ := hv
  simp only [pairsL, nrm]
  by_cases q : qa < c.f0
  ·obtain ⟨d, hd⟩ : ∃ d, (c.f0 - qa).toNat = d + 1 := ⟨(c.f0 - qa).toNat - 1, by omega⟩
   rw [if_pos q, hd, of_run, show qa + (d : Int) + 1 = c.f0 by omega, show qb + (d : Int) + 1 = c.f2 by omega, of_pairs n m t _ _ _ _ hv2 (by omega)]
  ·rw [if_neg q, show (c.f0 - qa).toNat = 0 by omega]
   exact of_pairs n m t pa pb _ _ hv2 (by omega)
theorem of_at (l : List S94) (n m : Int) (hn0 : 0 ≤ n) (hm0 : 0 ≤ m) (hn : n ≤ 4194304) (hm : m ≤ 4194304) (hl : l.length ≤ 8000000) (hi : inO n m l 0 0) : Ev (fun k => selvageref06_Of.f k l n m) (ofS n m l 0 0, 0) := by
 refine Ev.same (G := fun k => selvageref06_Of.j0 k l n m false) (fun k => ?_) ?_
 ·unfold selvageref06_Of.f
  rw [if_neg (by omega), if_neg (by omega), if_neg (by omega), decide_eq_false (by omega)]
 ·refine Ev.step (f := fun k => selvageref06_Of.l0 k l n m [] 0 0 0) (fun k => by simp [selvageref06_Of.j0]) ?_
  have := of_loop n m hn0 hm0 hn hm l hl l.length 0 [] 0 0 (by omega) hi (by omega) hn0 (by omega) hm0 (by simp)
  rw [List.nil_append, List.drop_zero] at this
  exact this
theorem validS_none {s : List S49} {n m : Int} (h : validS s n m = none) : n ≤ 4194304 ∧ m ≤ 4194304 ∧ qB n m s 0 0 := by
 unfold validS at h
 split at h
 ·cases h
 ·rename_i hc
  refine ⟨by omega, by omega, ?_⟩
  unfold errP at h
  split at h
  ·assumption
  ·cases h
theorem validS_some {s : List S49} {n m : Int} {e : Int} (h : validS s n m = some e) : e ≠ 0 := by
 unfold validS errP at h
 split at h
 ·cases h; decide
 ·split at h
  ·cases h
  ·cases h; decide
noncomputable def normS (s : List S49) (n m : Int) : List S49 × Option Int := if (validS s n m).isNone = true then (nrm s 0 0 0 0, none) else ([], validS s n m)
theorem rnorm_at (s : List S49) (hs : s.length ≤ 4000000000) (n m : Int) (hn0 : 0 ≤ n) (hm0 : 0 ≤ m) : Ev (fun k => selvageref06_Normal.f k s n m) ((normS s n m).1, num (normS s n m).2) := by
 refine Ev.bind (rvalid_at s hs n m hn0 hm0) ?_
 unfold normS
 cases hv : validS s n m with
 | none =>
  obtain ⟨hn, hm, hp⟩ := validS_none hv
  refine Ev.same (G := fun k => (selvageref06_pairs.f k s n).bind fun t => (selvageref06_Of.f k t n m).bind fun bt => some (bt.1, bt.2)) (fun k => by rw [if_pos (show num none = 0 from rfl)]) ?_
  have h1 := pairs_loop s n m hn hm hs s.length 0 [] 0 0 (by omega) hp (by omega) hn0 (by omega) hm0 (by simp)
  rw [List.nil_append, List.drop_zero] at h1
  refine Ev.bind h1 ?_
  have hlen := pairsL_length n m s 0 0 hp hn0
  have h2 := of_at (pairsL n s 0 0) n m hn0 hm0 hn hm (by omega) (inO_pairs n m s 0 0 hp hn0 hm0)
  refine Ev.bind h2 ?_
  rw [of_pairs n m s 0 0 0 0 hp hn0]
  exact Ev.pure _
 | some e =>
  have he := validS_some hv
  refine Ev.same (G := fun _ => some ([], e)) (fun k => by rw [if_neg (show ¬ num (some e) = 0 from he)]; rfl) (Ev.pure _)
end Go.Proofs.YtecjoofjiockkaaGreatDoor.Pure
namespace Go.Proofs.YtecjoofjiockkaaGreatDoor.Pure
open Go.RowKit Go.Proofs.YtecjoofjiockkaaGreatDoor.Pp Go.Proofs.YtecjoofjiockkaaGreatDoor.Ext Go.Proofs.YtecjoofjiockkaaGreatDoorW.PrintWords Go.Proofs.YtecjoofjiockkaaGreatDoorW.PrintLast Go.Proofs.YtecjoofjiockkaaGreatDoorW.PrintMore
theorem set_last (d : List S49) (x y : S49) : (d ++ [x]).set d.length y = d ++ [y] := by
 rw [List.set_append_right _ _ (Nat.le_refl _), Nat.sub_self]; rfl
theorem rd_last (d : List S49) (x : S49) : rd_T49 (d ++ [x]) (d.length : Int) = x := by
 unfold rd_T49
 rw [Int.toNat_natCast, List.getD_eq_getElem?_getD, List.getElem?_append_right (Nat.le_refl _), Nat.sub_self]; rfl
theorem norm_app (k : Nat) (L s : List S49) (i : Nat) (x c : S49) (hi : i < s.length) (hs : s.length ≤ 4000000000) (hL : 0 < L.length) (hL2 : L.length ≤ 4000000001) (hx : rd_T49 L ((L.length - 1 : Nat) : Int) = x) (hc : rd_T49 s (i : Int) = c) (hne : ¬ wrap64 (x.f0 + x.f1) = c.f0) :
  edits_Normal.l0 (k + 1) L s (s.length : Int) (i : Int) = edits_Normal.l0 k (L ++ [⟨c.f0, c.f1, c.f2, c.f3⟩]) s (s.length : Int) ((i + 1 : Nat) : Int) := by
 have w1 : wrap64 ((i : Int) + 1) = ((i + 1 : Nat) : Int) := w_add i 1 (by omega)
 have wl : wrap64 ((L.length : Int) - 1) = ((L.length - 1 : Nat) : Int) := by rw [w64' (by omega) (by omega)]; omega
 rw [edits_Normal.l0, if_pos (by omega), if_pos (by omega), if_pos (by omega), wl, hx, hc, w1, if_pos (by omega), if_pos (by omega), if_pos (by omega), if_neg hne, if_pos (by omega)]
theorem norm_mrg (k : Nat) (L s : List S49) (i : Nat) (x c y _z : S49) (L1 L2 : List S49) (hi : i < s.length) (hs : s.length ≤ 4000000000) (hL : 0 < L.length) (hL2 : L.length ≤ 4000000001) (hx : rd_T49 L ((L.length - 1 : Nat) : Int) = x) (hc : rd_T49 s (i : Int) = c) (he : wrap64 (x.f0 + x.f1) = c.f0)
  (h1 : L.set (L.length - 1) ⟨x.f0, wrap64 (x.f1 + c.f1), x.f2, x.f3⟩ = L1) (hy : rd_T49 L1 ((L.length - 1 : Nat) : Int) = y) (h2 : L1.set (L.length - 1) ⟨y.f0, y.f1, y.f2, wrap64 (y.f3 + c.f3)⟩ = L2) :
  edits_Normal.l0 (k + 1) L s (s.length : Int) (i : Int) = edits_Normal.l0 k L2 s (s.length : Int) ((i + 1 : Nat) : Int) := by
 have w1 : wrap64 ((i : Int) + 1) = ((i + 1 : Nat) : Int) := w_add i 1 (by omega)
 have wl : wrap64 ((L.length : Int) - 1) = ((L.length - 1 : Nat) : Int) := by rw [w64' (by omega) (by omega)]; omega
 rw [edits_Normal.l0, if_pos (by omega), if_pos (by omega), if_pos (by omega), wl, hx, hc, w1, if_pos (by omega), if_pos (by omega), if_pos (by omega), if_pos he, Int.toNat_natCast, h1, Option.bind_some, hy, h2]
theorem norm_loop (s : List S49) (n m : Int) (hn : n ≤ 4194304) (hm : m ≤ 4194304) (hs : s.length ≤ 4000000000) (d : Nat) : ∀ (i : Nat) (dn : List S49) (pa pb qa qb : Int), i + d = s.length → qB n m (s.drop i) qa qb → 0 ≤ pa → pa ≤ qa → qa ≤ n → 0 ≤ pb → pb ≤ qb → qb ≤ m → (pa < qa ∨ pb < qb) → dn.length ≤ i →
  Ev (fun k => edits_Normal.l0 k (dn ++ [⟨pa, qa - pa, pb, qb - pb⟩]) s (s.length : Int) (i : Int)) (dn ++ nrm (s.drop i) pa pb qa qb, none) := by
 induction d with
 | zero =>
  intro i dn pa pb qa qb hd hv a1 a2 a3 a4 a5 a6 a7 a8
  rw [List.drop_of_length_le (by omega)]
  refine Ev.step (f := fun _ => some (dn ++ nrm [] pa pb qa qb, none)) (fun k => ?_) (Ev.pure _)
  simp only [edits_Normal.l0, nrm]
  rw [if_neg (by omega), gap_some a7]
 | succ d ih =>
  intro i dn pa pb qa qb hd hv a1 a2 a3 a4 a5 a6 a7 a8
  rw [drop49 s i (by omega)] at hv ⊢
  obtain ⟨⟨h1, h2, h3, h4, h5, h6, h7, h8, h9, h10⟩, hv2⟩ := hv
  generalize hc : rd_T49 s (i : Int) = c at h1 h2 h3 h4 h5 h6 h7 h8 h9 h10 hv2 ⊢
  have hl : (dn ++ [(⟨pa, qa - pa, pb, qb - pb⟩ : S49)]).length = dn.length + 1 := by rw [List.length_append, List.length_singleton]
  have hx : rd_T49 (dn ++ [(⟨pa, qa - pa, pb, qb - pb⟩ : S49)]) (((dn ++ [(⟨pa, qa - pa, pb, qb - pb⟩ : S49)]).length - 1 : Nat) : Int) = ⟨pa, qa - pa, pb, qb - pb⟩ := by rw [hl, Nat.add_sub_cancel]; exact rd_last _ _
  have wq : wrap64 (pa + (qa - pa)) = qa := by rw [w64' (by omega) (by omega)]; omega
  by_cases q : qa < c.f0
  ·have := ih (i + 1) (dn ++ [⟨pa, qa - pa, pb, qb - pb⟩]) c.f0 c.f2 (c.f0 + c.f1) (c.f2 + c.f3) (by omega) hv2 (by omega) (by omega) (by omega) (by omega) (by omega) (by omega) (by omega) (by omega)
   have en : dn ++ nrm (c :: s.drop (i + 1)) pa pb qa qb = (dn ++ [⟨pa, qa - pa, pb, qb - pb⟩]) ++ nrm (s.drop (i + 1)) c.f0 c.f2 (c.f0 + c.f1) (c.f2 + c.f3) := by
    simp only [nrm]; rw [if_pos q, gap_some a7, List.append_assoc]
   have ec : (⟨c.f0, c.f0 + c.f1 - c.f0, c.f2, c.f2 + c.f3 - c.f2⟩ : S49) = ⟨c.f0, c.f1, c.f2, c.f3⟩ := by rw [show c.f0 + c.f1 - c.f0 = c.f1 by omega, show c.f2 + c.f3 - c.f2 = c.f3 by omega]
   rw [en]
   rw [ec] at this
   exact Ev.step (fun k => norm_app k _ s i _ c (by omega) hs (by omega) (by omega) hx hc (by show ¬ wrap64 (pa + (qa - pa)) = c.f0; rw [wq]; omega)) this
  ·have := ih (i + 1) dn pa pb (c.f0 + c.f1) (c.f2 + c.f3) (by omega) hv2 (by omega) (by omega) (by omega) (by omega) (by omega) (by omega) (by omega) (by omega)
   have en : nrm (c :: s.drop (i + 1)) pa pb qa qb = nrm (s.drop (i + 1)) pa pb (c.f0 + c.f1) (c.f2 + c.f3) := by simp only [nrm]; rw [if_neg q]
   rw [en]
   refine Ev.step (fun k => norm_mrg k _ s i _ c ⟨pa, c.f0 + c.f1 - pa, pb, qb - pb⟩ c (dn ++ [⟨pa, c.f0 + c.f1 - pa, pb, qb - pb⟩]) (dn ++ [⟨pa, c.f0 + c.f1 - pa, pb, c.f2 + c.f3 - pb⟩]) (by omega) hs (by omega) (by omega) hx hc (by show wrap64 (pa + (qa - pa)) = c.f0; rw [wq]; omega) ?_ ?_ ?_) this
   ·rw [hl, Nat.add_sub_cancel, set_last]
    show dn ++ [(⟨pa, wrap64 (qa - pa + c.f1), pb, qb - pb⟩ : S49)] = _
    rw [w64' (by omega) (by omega), show qa - pa + c.f1 = c.f0 + c.f1 - pa by omega]
   ·rw [hl, Nat.add_sub_cancel]; exact rd_last _ _
   ·rw [hl, Nat.add_sub_cancel, set_last]
    show dn ++ [(⟨pa, c.f0 + c.f1 - pa, pb, wrap64 (qb - pb + c.f3)⟩ : S49)] = _
    rw [w64' (by omega) (by omega), show qb - pb + c.f3 = c.f2 + c.f3 - pb by omega]
theorem norm_at (s : List S49) (hs : s.length ≤ 4000000000) (n m : Int) (hn0 : 0 ≤ n) (hm0 : 0 ≤ m) : Ev (fun k => edits_Normal.f k s n m) (normS s n m) := by
 refine Ev.bind (valid_at s hs n m hn0 hm0) ?_
 unfold normS
 cases hv : validS s n m with
 | some e =>
  refine Ev.same (G := fun _ => some ([], some e)) (fun k => ?_) ?_
  ·rw [if_neg (by simp)]; rfl
  ·rw [if_neg (by simp)]; exact Ev.pure _
 | none =>
  obtain ⟨hn, hm, hp⟩ := validS_none hv
  rw [if_pos (show (none : Option Int).isNone = true from rfl)]
  refine Ev.same (G := fun k => edits_Normal.l0 k [] s (s.length : Int) 0) (fun k => by rw [if_pos (show (none : Option Int).isNone = true from rfl)]) ?_
  cases s with
  | nil =>
   refine Ev.step (f := fun _ => some ([], none)) (fun k => ?_) ?_
   ·simp only [edits_Normal.l0]; rw [if_neg (by simp)]
   ·show Ev _ (gap 0 0 0 0, none)
    rw [gap_none]; exact Ev.pure _
  | cons c t =>
   obtain ⟨⟨h1, h2, h3, h4, h5, h6, h7, h8, h9, h10⟩, hv2⟩ := hp
   have hl : (c :: t).length = t.length + 1 := rfl
   have := norm_loop (c :: t) n m hn hm hs t.length 1 [] c.f0 c.f2 (c.f0 + c.f1) (c.f2 + c.f3) (by omega) hv2 (by omega) (by omega) (by omega) (by omega) (by omega) (by omega) (by omega) (by simp)
   have ec : (⟨c.f0, c.f0 + c.f1 - c.f0, c.f2, c.f2 + c.f3 - c.f2⟩ : S49) = ⟨c.f0, c.f1, c.f2, c.f3⟩ := by rw [show c.f0 + c.f1 - c.f0 = c.f1 by omega, show c.f2 + c.f3 - c.f2 = c.f3 by omega]
   have en : nrm (c :: t) 0 0 0 0 = nrm t c.f0 c.f2 (c.f0 + c.f1) (c.f2 + c.f3) := by
    simp only [nrm]
    by_cases q : 0 < c.f0
    ·rw [if_pos q, gap_none, List.nil_append]
    ·rw [if_neg q, show c.f0 = 0 by omega, show c.f2 = 0 by omega]
   rw [en]
   rw [ec, List.nil_append, List.nil_append, List.drop_one, List.tail_cons] at this
   refine Ev.step (fun k => ?_) this
   have hw : wrap64 ((([] : List S49).length : Int) - 1) = -1 := by rw [w64' (by simp) (by simp)]; simp
   have hw2 : wrap64 (0 + 1) = 1 := by rw [w64' (by omega) (by omega)]; omega
   have hr : rd_T49 (c :: t) 0 = c := rfl
   simp only [edits_Normal.l0, hw, hw2, hr]
   rw [if_pos (by rw [hl]; omega), if_pos (by omega), if_pos (by rw [hl]; omega), if_neg (by omega), if_pos (by simp)]
   rfl
end Go.Proofs.YtecjoofjiockkaaGreatDoor.Pure
namespace Go.Proofs.YtecjoofjiockkaaGreatDoor.Pure
open Go.RowKit Go.Proofs.YtecjoofjiockkaaGreatDoor.Pp Go.Proofs.YtecjoofjiockkaaGreatDoor.Ext Go.Proofs.YtecjoofjiockkaaGreatDoorW.PrintWords Go.Proofs.YtecjoofjiockkaaGreatDoorW.PrintLast Go.Proofs.YtecjoofjiockkaaGreatDoorW.PrintMore
abbrev Chg1 := S49
theorem scrHunks_le : ∀ (l : List Hunk) (out : List Chg1), (scrHunks l out).length ≤ out.length + rowsAll l
 | [], out => by unfold scrHunks; omega
 | h :: t, out => by
  unfold scrHunks
  have h1 := scrHunks_le t (scrRows h.f5 (aheadF h.f0 h.f1) (aheadF h.f2 h.f3) out none)
  have h2 := scrRows_le h.f5 (aheadF h.f0 h.f1) (aheadF h.f2 h.f3) out none
  rw [Option.toList_none, List.length_nil] at h2
  rw [rowsAll_cons]; omega
noncomputable def normI (s : List Chg1) (n m : Int) : List Chg1 × Option Int := if n < 0 ∨ m < 0 then ([], some 1) else normS s n m
theorem valid_neg (s : List Chg1) (n m : Int) (h : n < 0 ∨ m < 0) : Ev (fun k => edits_Valid.f k s n m) (some 1) ∧ Ev (fun k => selvageref06_Valid.f k s n m) 1 := by
 have j1 : Ev (fun k => edits_Valid.j0 k s n m true) (some 1) := Ev.step (f := fun _ => some (some 1)) (fun k => by rw [edits_Valid.j0, if_pos rfl]) (Ev.pure _)
 have j2 : Ev (fun k => selvageref06_Valid.j0 k s n m true) 1 := Ev.step (f := fun _ => some 1) (fun k => by rw [selvageref06_Valid.j0, if_pos rfl]) (Ev.pure _)
 unfold edits_Valid.f selvageref06_Valid.f
 by_cases h1 : n < 0
 ·exact ⟨Ev.same (fun k => if_pos h1) j1, Ev.same (fun k => if_pos h1) j2⟩
 ·by_cases h2 : n > 4194304
  ·exact ⟨Ev.same (fun k => by rw [if_neg h1, if_pos h2]) j1, Ev.same (fun k => by rw [if_neg h1, if_pos h2]) j2⟩
  ·have h3 : m < 0 := by omega
   exact ⟨Ev.same (fun k => by rw [if_neg h1, if_neg h2, if_pos h3]) j1, Ev.same (fun k => by rw [if_neg h1, if_neg h2, if_pos h3]) j2⟩
theorem norm_any (s : List Chg1) (hs : s.length ≤ 4000000000) (n m : Int) : Ev (fun k => edits_Normal.f k s n m) (normI s n m) := by
 unfold normI
 by_cases h : n < 0 ∨ m < 0
 ·rw [if_pos h]
  exact Ev.bind (valid_neg s n m h).1 (Ev.same (fun k => by rw [if_neg (by simp)]; rfl) (Ev.pure _))
 ·rw [if_neg h]
  exact norm_at s hs n m (by omega) (by omega)
theorem validS_some' {s : List Chg1} {n m : Int} {e : Int} (h : validS s n m = some e) : e = 1 ∨ e = 60 := by
 unfold validS errP at h
 split at h
 ·cases h; exact .inl rfl
 ·split at h
  ·cases h
  ·cases h; exact .inr rfl
noncomputable def endS (s : List Chg1) (n m : Int) : List Chg1 × Option Int := ((normI s n m).1, if (normI s n m).2 = some 1 then some 60 else (normI s n m).2)
theorem r_end (s : List Chg1) (hs : s.length ≤ 4000000000) (n m : Int) : Ev (fun k => (selvageref06_Valid.f k s n m).bind fun v => if v = 0 then selvageref06_Normal.f k s n m else some ([], 60)) ((endS s n m).1, numE (endS s n m).2) := by
 unfold endS normI
 by_cases h : n < 0 ∨ m < 0
 ·rw [if_pos h]
  exact Ev.bind (valid_neg s n m h).2 (Ev.same (fun k => if_neg (by decide)) (Ev.pure _))
 ·rw [if_neg h]
  have hv := rvalid_at s hs n m (by omega) (by omega)
  have hn := rnorm_at s hs n m (by omega) (by omega)
  cases hvs : validS s n m with
  | none =>
   rw [hvs] at hv
   have e1 : (normS s n m).2 = none := by unfold normS; rw [hvs]; rfl
   rw [e1]
   rw [e1] at hn
   exact Ev.bind hv (Ev.same (fun k => if_pos rfl) hn)
  | some x =>
   rw [hvs] at hv
   have e1 : normS s n m = ([], some x) := by unfold normS; rw [hvs]; rfl
   rw [e1]
   have hx : num (some x) ≠ 0 := validS_some hvs
   have e2 : (if (some x : Option Int) = some 1 then some 60 else some x) = some 60 := by
    rcases validS_some' hvs with rfl | rfl <;> rfl
   simp only [e2]
   exact Ev.bind hv (Ev.same (fun k => if_neg hx) (Ev.pure _))
noncomputable def scriptS (l : List Hunk) (n m : Int) : List Chg1 × Option Int := if (orderS l).isNone = true then endS (scrHunks l []) n m else ([], orderS l)
theorem rows_all (l : List Hunk) : rowsAll l = rowsSum l := rfl
theorem p_script (l : List Hunk) (hl : Hs l) (n m : Int) : Ev (fun k => hunks_Script.f k l n m) (scriptS l n m) := by
 have h1 := hl.count
 have h2 := hl.rows
 have h3 := scrHunks_le l []
 rw [rows_all, List.length_nil] at h3
 unfold hunks_Script.f scriptS
 refine Ev.same (fun k => if_pos ⟨by omega, by rw [rows_all]; omega⟩) (Ev.bind (order_at l hl) ?_)
 cases orderS l with
 | some e => exact Ev.same (fun k => if_neg (by simp)) (Ev.pure _)
 | none =>
  rw [if_pos (show (none : Option Int).isNone = true from rfl)]
  refine Ev.same (fun k => if_pos (show (none : Option Int).isNone = true from rfl)) (Ev.bind (norm_any _ (by omega) n m) ?_)
  exact Ev.pure _
theorem r_script (l : List Hunk) (hl : Hs l) (n m : Int) : Ev (fun k => selvageref10_Script.f k l n m) ((scriptS l n m).1, numE (scriptS l n m).2) := by
 have h1 := hl.count
 have h2 := hl.rows
 have h3 := scrHunks_le l []
 rw [rows_all, List.length_nil] at h3
 unfold selvageref10_Script.f scriptS
 refine Ev.same (fun k => if_pos ⟨by omega, by rw [rows_all]; omega⟩) (Ev.bind (r_order_at l hl) ?_)
 cases ho : orderS l with
 | some e =>
  have he : numE (some e) ≠ 0 := by
   unfold orderS at ho
   split at ho
   ·split at ho
    ·cases ho
    ·cases ho; decide
   ·cases ho; decide
  exact Ev.same (fun k => if_neg he) (Ev.pure _)
 | none =>
  rw [if_pos (show (none : Option Int).isNone = true from rfl)]
  exact Ev.same (fun k => if_pos rfl) (r_end _ (by omega) n m)
end Go.Proofs.YtecjoofjiockkaaGreatDoor.Pure
namespace Go.Proofs.YtecjoofjiockkaaGreatDoor.Pure
open Go.RowKit Go.Proofs.YtecjoofjiockkaaGreatDoor.Pp Go.Proofs.YtecjoofjiockkaaGreatDoor.Ext Go.Proofs.YtecjoofjiockkaaGreatDoorW.PrintWords Go.Proofs.YtecjoofjiockkaaGreatDoorW.PrintLast Go.Proofs.YtecjoofjiockkaaGreatDoorW.PrintMore
theorem nrm_valid (n m : Int) : ∀ (s : List S49) (pa pb qa qb a b : Int), qB n m s qa qb → pa ≤ qa → pb ≤ qb → (pa < qa ∨ pb < qb) → a ≤ pa → b ≤ pb → pa - a = pb - b → qa ≤ n → qb ≤ m → qB n m (nrm s pa pb qa qb) a b
 | [], pa, pb, qa, qb, a, b, hv, h1, h2, h3, h4, h5, h6, h7, h8 => by
  have hv' : n - qa = m - qb := hv
  simp only [nrm]
  rw [gap_some h3]
  refine ⟨⟨?_, ?_, ?_, ?_, ?_, ?_, ?_, ?_, ?_, ?_⟩, ?_⟩
  all_goals first | (show n - (pa + (qa - pa)) = m - (pb + (qb - pb)); omega) | (simp only; omega)
 | c :: t, pa, pb, qa, qb, a, b, hv, h1, h2, h3, h4, h5, h6, h7, h8 => by
  obtain ⟨⟨q1, q2, q3, q4, q5, q6, q7, q8, q9, q10⟩, hv2⟩ := hv
  simp only [nrm]
  by_cases q : qa < c.f0
  ·rw [if_pos q, gap_some h3]
   refine ⟨⟨?_, ?_, ?_, ?_, ?_, ?_, ?_, ?_, ?_, ?_⟩, ?_⟩
   all_goals first
    | (simp only; omega)
    | (show qB n m (nrm t c.f0 c.f2 (c.f0 + c.f1) (c.f2 + c.f3)) (pa + (qa - pa)) (pb + (qb - pb))
       rw [show pa + (qa - pa) = qa by omega, show pb + (qb - pb) = qb by omega]
       exact nrm_valid n m t _ _ _ _ _ _ hv2 (by omega) (by omega) (by omega) (by omega) (by omega) (by omega) (by omega) (by omega))
  ·rw [if_neg q]
   exact nrm_valid n m t _ _ _ _ _ _ hv2 (by omega) (by omega) (by omega) (by omega) (by omega) (by omega) (by omega) (by omega)
theorem nrm_start (c : S49) (t : List S49) (n m : Int) (h : okC n m 0 0 c) : nrm (c :: t) 0 0 0 0 = nrm t c.f0 c.f2 (c.f0 + c.f1) (c.f2 + c.f3) := by
 obtain ⟨q1, q2, q3, q4, q5, q6, q7, q8, q9, q10⟩ := h
 simp only [nrm]
 by_cases q : 0 < c.f0
 ·rw [if_pos q, gap_none, List.nil_append]
 ·rw [if_neg q, show c.f0 = 0 by omega, show c.f2 = 0 by omega]
theorem nrm_valid0 (n m : Int) (s : List S49) (hv : qB n m s 0 0) : qB n m (nrm s 0 0 0 0) 0 0 := by
 cases s with
 | nil => show qB n m (gap 0 0 0 0) 0 0; rw [gap_none]; exact hv
 | cons c t =>
  obtain ⟨h, hv2⟩ := hv
  rw [nrm_start c t n m h]
  obtain ⟨q1, q2, q3, q4, q5, q6, q7, q8, q9, q10⟩ := h
  exact nrm_valid n m t _ _ _ _ _ _ hv2 (by omega) (by omega) (by omega) (by omega) (by omega) (by omega) (by omega) (by omega)
theorem gap_length (a b x y : Int) : (gap a b x y).length ≤ 1 := by unfold gap; split <;> simp
theorem nrm_length : ∀ (s : List S49) (pa pb qa qb : Int), (nrm s pa pb qa qb).length ≤ s.length + 1
 | [], pa, pb, qa, qb => gap_length _ _ _ _
 | c :: t, pa, pb, qa, qb => by
  simp only [nrm, List.length_cons]
  split
  ·have := nrm_length t c.f0 c.f2 (c.f0 + c.f1) (c.f2 + c.f3)
   have := gap_length pa pb qa qb
   rw [List.length_append]; omega
  ·have := nrm_length t pa pb (c.f0 + c.f1) (c.f2 + c.f3)
   omega
theorem normS_valid {s L : List S49} {n m : Int} (h : normS s n m = (L, none)) : n ≤ 4194304 ∧ m ≤ 4194304 ∧ qB n m L 0 0 ∧ L.length ≤ s.length + 1 := by
 unfold normS at h
 split at h
 ·rename_i hc
  have hv : validS s n m = none := by simpa using hc
  obtain ⟨h1, h2, h3⟩ := validS_none hv
  obtain rfl : nrm s 0 0 0 0 = L := (Prod.mk.inj h).1
  exact ⟨h1, h2, nrm_valid0 n m s h3, nrm_length s 0 0 0 0⟩
 ·rename_i hc
  have := (Prod.mk.inj h).2
  rw [this] at hc
  exact absurd rfl hc
end Go.Proofs.YtecjoofjiockkaaGreatDoor.Pure
namespace Go.Proofs.YtecjoofjiockkaaGreatDoor.Pure
open Go.RowKit Go.Proofs.YtecjoofjiockkaaGreatDoor.Pp Go.Proofs.YtecjoofjiockkaaGreatDoor.Ext Go.Proofs.YtecjoofjiockkaaGreatDoorW.PrintWords Go.Proofs.YtecjoofjiockkaaGreatDoorW.PrintLast Go.Proofs.YtecjoofjiockkaaGreatDoorW.PrintMore
def turnL : List Row → List Row → List Row → List Row → List Row
 | [], out, x, n => out ++ x ++ n
 | r :: t, out, x, n => if r.f0 = 2 then turnL t out x (n ++ [⟨3, r.f1⟩]) else if r.f0 = 3 then turnL t out (x ++ [⟨2, r.f1⟩]) n else turnL t ((out ++ x ++ n) ++ [r]) [] []
theorem kind_loop (l : List Row) (o : Int) (hl : l.length ≤ 4000000000) (d : Nat) : ∀ (i : Nat) (x : List Row), i + d = l.length → x.length ≤ i → Ev (fun k => selvageref10_kinded.l0 k l o x (i : Int)) (x ++ (l.drop i).filter fun r => r.f0 == o) := by
 induction d with
 | zero =>
  intro i x h hx
  rw [List.drop_of_length_le (by omega), List.filter_nil, List.append_nil]
  exact Ev.step (f := fun _ => some x) (fun k => by rw [selvageref10_kinded.l0, if_neg (by omega)]) (Ev.pure _)
 | succ d ih =>
  intro i x h hx
  have w1 : wrap64 ((i : Int) + 1) = ((i + 1 : Nat) : Int) := w_add i 1 (by omega)
  have hdr := qH l z53 i (by omega)
  rw [hdr, List.filter_cons]
  have hrd : rd_T53 l (i : Int) = l.getD i z53 := rd_row l i
  by_cases hk : (l.getD i z53).f0 = o
  ·rw [if_pos (beq_iff_eq.mpr hk)]
   have := ih (i + 1) (x ++ [l.getD i z53]) (by omega) (by simp; omega)
   rw [List.append_assoc, List.singleton_append] at this
   exact Ev.step (fun k => by rw [selvageref10_kinded.l0, if_pos (by omega), if_pos (by omega), hrd, if_pos hk, if_pos (by omega), w1]) this
  ·rw [if_neg (fun hh => hk (beq_iff_eq.mp hh))]
   exact Ev.step (fun k => by rw [selvageref10_kinded.l0, if_pos (by omega), if_pos (by omega), hrd, if_neg hk, w1]) (ih (i + 1) x (by omega) (by omega))
theorem kind_at (l : List Row) (o : Int) (hl : l.length ≤ 4000000000) : Ev (fun k => selvageref10_kinded.f k l o) (l.filter fun r => r.f0 == o) := by
 have := kind_loop l o hl l.length 0 [] (by omega) (by simp)
 rw [List.drop_zero, List.nil_append] at this
 exact this
theorem kind_len (l : List Row) (o : Int) : (l.filter fun r => r.f0 == o).length ≤ l.length := List.length_filter_le _ _
def swapR (r : Row) : Row := if r.f0 = 2 then ⟨3, r.f1⟩ else if r.f0 = 3 then ⟨2, r.f1⟩ else r
theorem sort_loop (L : List Row) (hL : L.length ≤ 1000000000) (d : Nat) : ∀ (i : Nat) (t : List Row) (out run x n : List Row), i + d = L.length → L.drop i = t.map swapR → out.length + run.length ≤ i → x.length + n.length ≤ run.length → (run.filter fun r => r.f0 == 2) = x → (run.filter fun r => r.f0 == 3) = n →
  Ev (fun k => selvageref10_Sorted.l0 k L out run (i : Int)) (turnL t out x n) := by
 induction d with
 | zero =>
  intro i t out run x n h ht hr hxn hx hn
  rw [List.drop_of_length_le (by omega)] at ht
  cases t with
  | cons => cases ht
  | nil =>
   have k1 := kind_at run 2 (by omega)
   have k2 := kind_at run 3 (by omega)
   have l1 := kind_len run 2
   have l2 := kind_len run 3
   rw [hx] at k1 l1
   rw [hn] at k2 l2
   refine Ev.step (fun k => by rw [selvageref10_Sorted.l0, if_neg (by omega)]) ?_
   refine Ev.bind k1 (Ev.same (fun k => if_pos (by omega)) ?_)
   refine Ev.same (fun k => Option.bind_some _ _) (Ev.bind k2 (Ev.same (fun k => if_pos (by rw [List.length_append]; omega)) ?_))
   exact Ev.pure _
 | succ d ih =>
  intro i t out run x n h ht hr hxn hx hn
  cases t with
  | nil =>
   have := congrArg List.length ht
   rw [List.length_drop] at this
   simp at this
   omega
  | cons r t =>
   have w1 : wrap64 ((i : Int) + 1) = ((i + 1 : Nat) : Int) := w_add i 1 (by omega)
   have hdr := qH L z53 i (by omega)
   rw [hdr, List.map_cons] at ht
   obtain ⟨hg, ht2⟩ := List.cons.inj ht
   have hrd : rd_T53 L (i : Int) = swapR r := (rd_row L i).trans hg
   have heta : (⟨(swapR r).f0, (swapR r).f1⟩ : Row) = swapR r := rfl
   have c1 : (i : Int) < (L.length : Int) := by omega
   have c0 : (0 : Int) ≤ (i : Int) := by omega
   by_cases q2 : r.f0 = 2
   ·have hs : swapR r = ⟨3, r.f1⟩ := by unfold swapR; rw [if_pos q2]
    rw [turnL, if_pos q2]
    have e3 : ((run ++ [swapR r]).filter fun r => r.f0 == 2) = x := by rw [List.filter_append, hx, hs]; simp
    have e4 : ((run ++ [swapR r]).filter fun r => r.f0 == 3) = n ++ [⟨3, r.f1⟩] := by rw [List.filter_append, hn, hs]; simp
    have := ih (i + 1) t out (run ++ [swapR r]) x (n ++ [⟨3, r.f1⟩]) (by omega) ht2 (by simp; omega) (by simp; omega) e3 e4
    refine Ev.step (fun k => by rw [selvageref10_Sorted.l0, if_pos c1, if_pos c0, hrd, if_neg (by rw [hs]; simp), hs]) ?_
    rw [hs] at this
    refine Ev.step (fun k => by rw [selvageref10_Sorted.j1]) ?_
    refine Ev.same (fun k => if_pos rfl) ?_
    exact Ev.same (fun k => by rw [if_pos c0, if_pos c1, if_pos (by omega), hrd, hs, w1]) this
   ·by_cases q3 : r.f0 = 3
    ·have hs : swapR r = ⟨2, r.f1⟩ := by unfold swapR; rw [if_neg q2, if_pos q3]
     rw [turnL, if_neg q2, if_pos q3]
     have e3 : ((run ++ [swapR r]).filter fun r => r.f0 == 2) = x ++ [⟨2, r.f1⟩] := by rw [List.filter_append, hx, hs]; simp
     have e4 : ((run ++ [swapR r]).filter fun r => r.f0 == 3) = n := by rw [List.filter_append, hn, hs]; simp
     have := ih (i + 1) t out (run ++ [swapR r]) (x ++ [⟨2, r.f1⟩]) n (by omega) ht2 (by simp; omega) (by simp; omega) e3 e4
     refine Ev.step (fun k => by rw [selvageref10_Sorted.l0, if_pos c1, if_pos c0, hrd, if_pos (by rw [hs])]) ?_
     rw [hs] at this
     refine Ev.step (fun k => by rw [selvageref10_Sorted.j1]) ?_
     refine Ev.same (fun k => if_pos rfl) ?_
     exact Ev.same (fun k => by rw [if_pos c0, if_pos c1, if_pos (by omega), hrd, hs, w1]) this
    ·have hs : swapR r = r := by unfold swapR; rw [if_neg q2, if_neg q3]
     rw [turnL, if_neg q2, if_neg q3]
     have k1 := kind_at run 2 (by omega)
     have k2 := kind_at run 3 (by omega)
     have l1 := kind_len run 2
     have l2 := kind_len run 3
     rw [hx] at k1 l1
     rw [hn] at k2 l2
     have hrun := ih (i + 1) t (((out ++ x) ++ n) ++ [swapR r]) [] [] [] (by omega) ht2 (by simp; omega) (by simp) rfl rfl
     rw [hs] at hrun
     refine Ev.step (fun k => by rw [selvageref10_Sorted.l0, if_pos c1, if_pos c0, hrd, if_neg (by rw [hs]; exact q2), beq_eq_false_iff_ne.mpr (by rw [hs]; exact q3)]) ?_
     refine Ev.step (fun k => by rw [selvageref10_Sorted.j1, if_neg (by simp)]) ?_
     refine Ev.bind k1 (Ev.same (fun k => if_pos (by omega)) ?_)
     refine Ev.same (fun k => Option.bind_some _ _) (Ev.bind k2 (Ev.same (fun k => if_pos (by rw [List.length_append]; omega)) ?_))
     refine Ev.same (fun k => Option.bind_some _ _) (Ev.same (fun k => by rw [if_pos c0, if_pos c1, if_pos (by simp; omega), hrd, w1]) ?_)
     rw [hs]
     exact hrun
theorem sort_at (t : List Row) (ht : t.length ≤ 1000000000) : Ev (fun k => selvageref10_Sorted.f k (t.map swapR)) (turnL t [] [] []) := by
 have hl : (t.map swapR).length = t.length := List.length_map _
 exact sort_loop (t.map swapR) (by omega) (t.map swapR).length 0 t [] [] [] [] (by omega) (List.drop_zero) (by simp) (by simp) rfl rfl
theorem rev_loop (R : List Row) (hR : R.length ≤ 1000000000) (h0 h1 h2 h3 : Int) (h4 : ByteArray) (d : Nat) : ∀ (i : Nat) (x : List Row), i + d = R.length → x = (R.take i).map swapR → Ev (fun k => selvageref10_Reverse.l0 k x (i : Int) h0 h1 h2 h3 h4 R) (h2, h3, h0, h1, h4, turnL R [] [] []) := by
 induction d with
 | zero =>
  intro i x h hx
  rw [List.take_of_length_le (by omega)] at hx
  have hs := sort_at R hR
  rw [← hx] at hs
  exact Ev.step (fun k => by rw [selvageref10_Reverse.l0, if_neg (by omega)]) (Ev.bind hs (Ev.pure _))
 | succ d ih =>
  intro i x h hx
  have w1 : wrap64 ((i : Int) + 1) = ((i + 1 : Nat) : Int) := w_add i 1 (by omega)
  have hi : i < R.length := by omega
  have hrd : rd_T53 R (i : Int) = R.getD i z53 := rd_row R i
  obtain ⟨r, hr⟩ : ∃ r, r = R.getD i z53 := ⟨_, rfl⟩
  rw [← hr] at hrd
  have hxl : x.length = i := by rw [hx, List.length_map, List.length_take]; omega
  have hnx : x ++ [swapR r] = (R.take (i + 1)).map swapR := by
   rw [hx, List.take_add_one, List.map_append, hr, List.getD_eq_getElem?_getD, List.getElem?_eq_getElem hi]
   rfl
  have hg := ih (i + 1) (x ++ [swapR r]) (by omega) hnx
  by_cases q2 : r.f0 = 2
  ·have hs : swapR r = ⟨3, r.f1⟩ := by unfold swapR; rw [if_pos q2]
   rw [hs] at hg
   exact Ev.step (fun k => by rw [selvageref10_Reverse.l0, if_pos (by omega), if_pos (by omega), hrd, if_pos q2, if_pos (by omega), w1]) hg
  ·by_cases q3 : r.f0 = 3
   ·have hs : swapR r = ⟨2, r.f1⟩ := by unfold swapR; rw [if_neg q2, if_pos q3]
    rw [hs] at hg
    exact Ev.step (fun k => by rw [selvageref10_Reverse.l0, if_pos (by omega), if_pos (by omega), hrd, if_neg q2, if_pos q3, if_pos (by omega), w1]) hg
   ·have hs : swapR r = r := by unfold swapR; rw [if_neg q2, if_neg q3]
    rw [hs] at hg
    exact Ev.step (fun k => by rw [selvageref10_Reverse.l0, if_pos (by omega), if_pos (by omega), hrd, if_neg q2, if_neg q3, if_pos (by omega), w1]) hg
theorem rev_at (h : Hunk) (hR : h.f5.length ≤ 1000000000) : Ev (fun k => selvageref10_Reverse.f k h.f0 h.f1 h.f2 h.f3 h.f4 h.f5) (h.f2, h.f3, h.f0, h.f1, h.f4, turnL h.f5 [] [] []) :=
 rev_loop h.f5 hR h.f0 h.f1 h.f2 h.f3 h.f4 h.f5.length 0 [] (by omega) (by simp)
theorem rev_eq : ∀ (l out x n : List Row), revL l out x n = turnL l out x n
 | [], out, x, n => rfl
 | r :: t, out, x, n => by rw [revL, turnL, rev_eq t, rev_eq t, rev_eq t]
theorem turn_len : ∀ (l out x n : List Row), (turnL l out x n).length = out.length + x.length + n.length + l.length
 | [], out, x, n => by rw [turnL, List.length_append, List.length_append]; rfl
 | r :: t, out, x, n => by
  rw [turnL]
  split
  ·rw [turn_len t, List.length_append]; simp only [List.length_cons, List.length_nil]; omega
  ·split
   ·rw [turn_len t, List.length_append]; simp only [List.length_cons, List.length_nil]; omega
   ·rw [turn_len t, List.length_append, List.length_append, List.length_append]; simp only [List.length_cons, List.length_nil]; omega
theorem p_turn (h : Hunk) (hR : h.f5.length ≤ 4000000000) : hunks_Reverse.f h.f0 h.f1 h.f2 h.f3 h.f4 h.f5 = some (h.f2, h.f3, h.f0, h.f1, h.f4, turnL h.f5 [] [] []) := by
 unfold hunks_Reverse.f
 rw [if_pos hR, rev_eq]
end Go.Proofs.YtecjoofjiockkaaGreatDoor.Pure
namespace Go.Proofs.YtecjoofjiockkaaGreatDoor.Pure
open Go.RowKit Go.Proofs.YtecjoofjiockkaaGreatDoor.Pp Go.Proofs.YtecjoofjiockkaaGreatDoor.Ext Go.Proofs.YtecjoofjiockkaaGreatDoorW.PrintWords Go.Proofs.YtecjoofjiockkaaGreatDoorW.PrintLast Go.Proofs.YtecjoofjiockkaaGreatDoorW.PrintMore
def oldT (l : List Row) : List ByteArray := (l.filter qD).map (·.f1)
def newT (l : List Row) : List ByteArray := (l.filter qE).map (·.f1)
theorem oldT_length (l : List Row) : (oldT l).length = cntOld l := by unfold oldT cntOld; rw [List.length_map, List.countP_eq_length_filter]
theorem newT_length (l : List Row) : (newT l).length = cntNew l := by unfold newT cntNew; rw [List.length_map, List.countP_eq_length_filter]
theorem oldT_cons (r : Row) (t : List Row) : oldT (r :: t) = (if qD r = true then [r.f1] else []) ++ oldT t := by
 unfold oldT
 rw [List.filter_cons]
 split <;> simp
theorem newT_cons (r : Row) (t : List Row) : newT (r :: t) = (if qE r = true then [r.f1] else []) ++ newT t := by
 unfold newT
 rw [List.filter_cons]
 split <;> simp
theorem sides_loop (l : List Row) (hl : l.length ≤ 1000000000) (d : Nat) : ∀ (i : Nat) (x y : List ByteArray), i + d = l.length → x.length ≤ i → y.length ≤ i →
  Ev (fun k => hunks_Sides.l0 k x y l (l.length : Int) (i : Int)) (x ++ oldT (l.drop i), y ++ newT (l.drop i)) := by
 induction d with
 | zero =>
  intro i x y h _ _
  rw [List.drop_of_length_le (by omega)]
  exact Ev.step (f := fun _ => some (x, y)) (fun k => by rw [hunks_Sides.l0, if_neg (by omega)]) (by simpa [oldT, newT] using Ev.pure _)
 | succ d ih =>
  intro i x y h hx hy
  have hi : i < l.length := by omega
  have w1 : wrap64 ((i : Int) + 1) = ((i + 1 : Nat) : Int) := w_add i 1 (by omega)
  have hrd := rd_row l i
  rw [qH l z53 i hi]
  generalize l.getD i z53 = r at hrd ⊢
  rw [oldT_cons, newT_cons]
  rcases kinds r with ⟨hk, h1, h2⟩ | ⟨hk, h1, h2⟩ | ⟨hk, h1, h2⟩ | ⟨⟨hk1, hk2, hk3⟩, h1, h2⟩
  ·have := ih (i + 1) (x ++ [r.f1]) (y ++ [r.f1]) (by omega) (by simp; omega) (by simp; omega)
   rw [h1, h2, if_pos rfl, ← List.append_assoc, ← List.append_assoc]
   exact Ev.step (fun k => by rw [hunks_Sides.l0, if_pos (by omega), if_pos (by omega), if_pos (by omega), hrd, if_pos hk]) (Ev.step (fun k => by rw [hunks_Sides.j1, if_pos rfl, if_pos (by omega), Option.bind_some, if_pos hk, if_pos (by omega), w1]) this)
  ·have := ih (i + 1) (x ++ [r.f1]) y (by omega) (by simp; omega) (by omega)
   have hb : (r.f0 == 2) = true := by simp [hk]
   rw [h1, h2, if_pos rfl, if_neg (by simp), List.nil_append, ← List.append_assoc]
   exact Ev.step (fun k => by rw [hunks_Sides.l0, if_pos (by omega), if_pos (by omega), if_pos (by omega), hrd, if_neg (by omega), hb]) (Ev.step (fun k => by rw [hunks_Sides.j1, if_pos rfl, if_pos (by omega), Option.bind_some, if_neg (by omega), if_neg (by omega), w1]) this)
  ·have := ih (i + 1) x (y ++ [r.f1]) (by omega) (by omega) (by simp; omega)
   have hb : (r.f0 == 2) = false := by simp [hk]
   rw [h1, h2, if_pos rfl, if_neg (by simp), List.nil_append, ← List.append_assoc]
   exact Ev.step (fun k => by rw [hunks_Sides.l0, if_pos (by omega), if_pos (by omega), if_pos (by omega), hrd, if_neg (by omega), hb]) (Ev.step (fun k => by rw [hunks_Sides.j1, if_neg (by simp), if_neg (by omega), if_pos hk, if_pos (by omega), w1]) this)
  ·have := ih (i + 1) x y (by omega) (by omega) (by omega)
   have hb : (r.f0 == 2) = false := by simp [hk2]
   rw [h1, h2, if_neg (by simp), List.nil_append, List.nil_append]
   exact Ev.step (fun k => by rw [hunks_Sides.l0, if_pos (by omega), if_pos (by omega), if_pos (by omega), hrd, if_neg hk1, hb]) (Ev.step (fun k => by rw [hunks_Sides.j1, if_neg (by simp), if_neg hk1, if_neg hk3, w1]) this)
theorem sides_at (a0 a1 a2 a3 : Int) (a4 : ByteArray) (l : List Row) (hl : l.length ≤ 1000000000) : Ev (fun k => hunks_Sides.f k a0 a1 a2 a3 a4 l) (oldT l, newT l) := by
 have := sides_loop l hl l.length 0 [] [] (by omega) (by simp) (by simp)
 rw [List.drop_zero] at this
 exact this
end Go.Proofs.YtecjoofjiockkaaGreatDoor.Pure
namespace Go.Proofs.YtecjoofjiockkaaGreatDoor.Pure
open Go.RowKit Go.Proofs.YtecjoofjiockkaaGreatDoor.Pp Go.Proofs.YtecjoofjiockkaaGreatDoor.Ext Go.Proofs.YtecjoofjiockkaaGreatDoorW.PrintWords Go.Proofs.YtecjoofjiockkaaGreatDoorW.PrintLast Go.Proofs.YtecjoofjiockkaaGreatDoorW.PrintMore
theorem r_sides_loop (h0 h1 h2 h3 : Int) (h4 : ByteArray) (l : List Row) (hl : l.length ≤ 1000000000) (d : Nat) : ∀ (i : Nat) (x y : List ByteArray), i + d = l.length → x.length ≤ i → y.length ≤ i →
  Ev (fun k => selvageref10_Sides.l0 k x y (i : Int) h0 h1 h2 h3 h4 l) (x ++ oldT (l.drop i), y ++ newT (l.drop i)) := by
 induction d with
 | zero =>
  intro i x y h _ _
  rw [List.drop_of_length_le (by omega)]
  exact Ev.step (f := fun _ => some (x, y)) (fun k => by rw [selvageref10_Sides.l0, if_neg (by omega)]) (by simpa [oldT, newT] using Ev.pure _)
 | succ d ih =>
  intro i x y h hx hy
  have hi : i < l.length := by omega
  have w1 : wrap64 ((i : Int) + 1) = ((i + 1 : Nat) : Int) := w_add i 1 (by omega)
  have hrd := rd_row l i
  rw [qH l z53 i hi]
  generalize l.getD i z53 = r at hrd ⊢
  rw [oldT_cons, newT_cons]
  have ro := r_old r
  have rn := r_new r
  cases h1' : qD r <;> cases h2' : qE r
  ·have := ih (i + 1) x y (by omega) (by omega) (by omega)
   rw [h1'] at ro; rw [h2'] at rn
   rw [if_neg (by simp), List.nil_append, List.nil_append]
   exact Ev.step (fun k => by rw [selvageref10_Sides.l0, if_pos (by omega), if_pos (by omega), hrd, ro, Option.bind_some, if_neg (by simp), rn, Option.bind_some, if_neg (by simp), w1]) this
  ·have := ih (i + 1) x (y ++ [r.f1]) (by omega) (by omega) (by simp; omega)
   rw [h1'] at ro; rw [h2'] at rn
   rw [if_neg (by simp), if_pos rfl, List.nil_append, ← List.append_assoc]
   exact Ev.step (fun k => by rw [selvageref10_Sides.l0, if_pos (by omega), if_pos (by omega), hrd, ro, Option.bind_some, if_neg (by simp), rn, Option.bind_some, if_pos rfl, if_pos (by omega), w1]) this
  ·have := ih (i + 1) (x ++ [r.f1]) y (by omega) (by simp; omega) (by omega)
   rw [h1'] at ro; rw [h2'] at rn
   rw [if_pos rfl, if_neg (by simp), List.nil_append, ← List.append_assoc]
   exact Ev.step (fun k => by rw [selvageref10_Sides.l0, if_pos (by omega), if_pos (by omega), hrd, ro, Option.bind_some, if_pos rfl, if_pos (by omega), Option.bind_some, rn, Option.bind_some, if_neg (by simp), w1]) this
  ·have := ih (i + 1) (x ++ [r.f1]) (y ++ [r.f1]) (by omega) (by simp; omega) (by simp; omega)
   rw [h1'] at ro; rw [h2'] at rn
   rw [if_pos rfl, ← List.append_assoc, ← List.append_assoc]
   exact Ev.step (fun k => by rw [selvageref10_Sides.l0, if_pos (by omega), if_pos (by omega), hrd, ro, Option.bind_some, if_pos rfl, if_pos (by omega), Option.bind_some, rn, Option.bind_some, if_pos rfl, if_pos (by omega), w1]) this
theorem r_sides (h : Hunk) (hl : h.f5.length ≤ 1000000000) : Ev (fun k => selvageref10_Sides.f k h.f0 h.f1 h.f2 h.f3 h.f4 h.f5) (oldT h.f5, newT h.f5) := by
 have := r_sides_loop h.f0 h.f1 h.f2 h.f3 h.f4 h.f5 hl h.f5.length 0 [] [] (by omega) (by simp) (by simp)
 rw [List.drop_zero] at this
 exact this
theorem sc_texts (A : List ByteArray) (hA : A.length ≤ 4000000000) (d : Nat) : ∀ i : Nat, i + d = A.length → Ev (fun k => selvagelaw10_sameTexts.l0 k A A (i : Int)) true := by
 induction d with
 | zero =>
  intro i h
  exact Ev.step (f := fun _ => some true) (fun k => by rw [selvagelaw10_sameTexts.l0, if_neg (by omega)]) (Ev.pure _)
 | succ d ih =>
  intro i h
  have w1 : wrap64 ((i : Int) + 1) = ((i + 1 : Nat) : Int) := w_add i 1 (by omega)
  exact Ev.step (fun k => by rw [selvagelaw10_sameTexts.l0, if_pos (by omega), if_pos (by omega), if_pos (by omega), if_pos rfl, w1]) (ih (i + 1) (by omega))
theorem sc_texts_at (A : List ByteArray) (hA : A.length ≤ 4000000000) : Ev (fun k => selvagelaw10_sameTexts.f k A A) true := by
 unfold selvagelaw10_sameTexts.f
 exact Ev.same (fun k => if_pos rfl) (sc_texts A hA A.length 0 (by omega))
theorem script_hunks (l : List Hunk) (hl : Hs l) (d : Nat) : ∀ i : Nat, i + d = l.length → Ev (fun k => selvagelaw10_HunksScript.l1 k l (i : Int)) true := by
 have h1 := hl.count
 induction d with
 | zero =>
  intro i h
  exact Ev.step (fun k => by rw [selvagelaw10_HunksScript.l1, if_neg (by omega)]) (Ev.bind ev_works (Ev.pure _))
 | succ d ih =>
  intro i h
  have hi : i < l.length := by omega
  have w1 : wrap64 ((i : Int) + 1) = ((i + 1 : Nat) : Int) := w_add i 1 (by omega)
  have hs := hl.all _ (rd_mem l i hi)
  have hrd := rd_hunk l i
  generalize l.getD i z29 = x at hs hrd
  have hr := hs.rows
  have ht : selvagelaw10_twin.f x.f0 x.f1 x.f2 x.f3 x.f4 x.f5 = some (x.f0, x.f1, x.f2, x.f3, x.f4, x.f5) := by
   unfold selvagelaw10_twin.f
   rw [if_pos (by rw [List.length_nil]; omega), List.nil_append]
  have hp := sides_at x.f0 x.f1 x.f2 x.f3 x.f4 x.f5 (by omega)
  have hq := r_sides x (by omega)
  have c1 := cntOld_le x.f5
  have c2 := cntNew_le x.f5
  have s1 := sc_texts_at (oldT x.f5) (by rw [oldT_length]; omega)
  have s2 := sc_texts_at (newT x.f5) (by rw [newT_length]; omega)
  have hpt := p_turn x (by omega)
  have hrt := rev_at x (by omega)
  have tl := turn_len x.f5 [] [] []
  have hsm : Ev (fun k => selvagelaw10_same.f k x.f2 x.f3 x.f0 x.f1 x.f4 (turnL x.f5 [] [] []) x.f2 x.f3 x.f0 x.f1 x.f4 (turnL x.f5 [] [] [])) true := same_at ⟨x.f2, x.f3, x.f0, x.f1, x.f4, turnL x.f5 [] [] []⟩ (by show (turnL x.f5 [] [] []).length ≤ _; rw [tl]; simp; omega)
  refine Ev.step (fun k => by rw [selvagelaw10_HunksScript.l1, if_pos (by omega), if_pos (by omega), hrd, ht, Option.bind_some, hpt, w1]) (Ev.bind hp (Ev.bind hq (Ev.bind s1 (Ev.same (fun k => if_pos rfl) (Ev.bind s2 (Ev.same (fun k => (if_pos rfl).trans (Option.bind_some _ _)) (Ev.bind hrt (Ev.bind hsm (Ev.same (fun k => if_pos rfl) (Ev.bind (same_at x (by omega)) (Ev.same (fun k => if_pos rfl) (ih (i + 1) (by omega)))))))))))))
theorem script_same (l : List Hunk) (hl : Hs l) (s : List Chg1) (hs : s.length ≤ 4000000000) (d : Nat) : ∀ i : Nat, i + d = s.length → Ev (fun k => selvagelaw10_HunksScript.l0 k l s s (i : Int)) true := by
 induction d with
 | zero =>
  intro i h
  exact Ev.step (fun k => by rw [selvagelaw10_HunksScript.l0, if_neg (by omega)]; rfl) (script_hunks l hl l.length 0 (by omega))
 | succ d ih =>
  intro i h
  have w1 : wrap64 ((i : Int) + 1) = ((i + 1 : Nat) : Int) := w_add i 1 (by omega)
  exact Ev.step (fun k => by rw [selvagelaw10_HunksScript.l0, if_pos (by omega), if_pos (by omega), if_pos (by omega), if_neg (by simp), w1]) (ih (i + 1) (by omega))
theorem endS_len (s : List Chg1) (n m : Int) (hs : s.length ≤ 3000000000) : (endS s n m).1.length ≤ 3000000001 := by
 unfold endS normI
 split
 ·simp
 ·cases h : normS s n m with
  | mk L e =>
   cases e with
   | none => have := (normS_valid h).2.2.2; show L.length ≤ _; omega
   | some x =>
    have : L = [] := by
     unfold normS at h
     split at h
     ·exact absurd (congrArg Prod.snd h) (by simp)
     ·exact (congrArg Prod.fst h).symm
    subst this; simp
theorem HunksScript : ∀ (a0 : List Hunk) (a1 a2 : Int), (∀ z ∈ a0, Ext.ok29 z) → (Lit.int IntKind.i64 a1).wf = true → (Lit.int IntKind.i64 a2).wf = true → ((a0.map Ext.wt29).sum + 1) + 1 + 1 ≤ 1048576 → ∃ k, selvagelaw10_HunksScript.f k a0 a1 a2 = some true := by
 intro a0 a1 a2 hok _ _ hb
 have hl := hs_of a0 hok (by omega)
 have h1 := hl.count
 have h2 := hl.rows
 have hrows : ∀ h ∈ a0, h.f5.length ≤ 1048576 := fun h hm => (hl.all h hm).rows
 have h3 := scrHunks_le a0 []
 rw [rows_all, List.length_nil] at h3
 have hlen : (scriptS a0 a1 a2).1.length ≤ 3000000001 := by
  unfold scriptS
  split
  ·exact endS_len _ _ _ (by omega)
  ·simp
 have hj : Ev (fun k => selvagelaw10_HunksScript.j0 k a0 (scriptS a0 a1 a2).1 (scriptS a0 a1 a2).1 false) true := Ev.step (fun k => by rw [selvagelaw10_HunksScript.j0, if_neg (by simp)]; rfl) (script_same a0 hl _ (by omega) _ 0 (Nat.zero_add _))
 refine Ev.rounds (Ev.bind (twins_at a0 (by omega) (fun h hm => by have := hrows h hm; omega)) (Ev.bind (p_script a0 hl a1 a2) (Ev.bind (r_script a0 hl a1 a2) (Ev.same (fun k => if_pos rfl) (Ev.bind (num_ev _) ?_)))))
 exact Ev.same (fun k => by rw [bne_self_eq_false]) hj
end Go.Proofs.YtecjoofjiockkaaGreatDoor.Pure
