/-
  Lines, in plain Lean: what both sides take for a line, for a list of lines.
-/
import Derived.Test.YtecjoofjiockkaaGreatDoorEPure
import Derived.Test.YtecjoofjiockkaaGreatDoorPp11
import Derived.Test.YtecjoofjiockkaaGreatDoorPp3
import Derived.Test.YtecjoofjiockkaaGreatDoorPp20
import Derived.Test.YtecjoofjiockkaaGreatDoorPp4
import Derived.Lib.IndexLaws
import Derived.Test.YtecjoofjiockkaaGreatDoorPp12
import Derived.Test.YtecjoofjiockkaaGreatDoorPp21
import Derived.Test.YtecjoofjiockkaaGreatDoorPp13
import Derived.Test.YtecjoofjiockkaaGreatDoorEPairs
import Derived.Test.YtecjoofjiockkaaGreatDoorPp22
import Derived.Test.YtecjoofjiockkaaGreatDoorESides
import Derived.Test.YtecjoofjiockkaaGreatDoorPp6
import Derived.Test.YtecjoofjiockkaaGreatDoorEKind
import Derived.Test.YtecjoofjiockkaaGreatDoorPp7
import Derived.Test.YtecjoofjiockkaaGreatDoorPp18
import Derived.Test.YtecjoofjiockkaaGreatDoorPp14
import Derived.Test.YtecjoofjiockkaaGreatDoorPp15
import Derived.Test.YtecjoofjiockkaaGreatDoorPp16
import Derived.Test.YtecjoofjiockkaaGreatDoorPp23
import Derived.Test.YtecjoofjiockkaaGreatDoorPp25
namespace Go.Proofs.YtecjoofjiockkaaGreatDoor.Pure
open Go.RowKit Go.Proofs.YtecjoofjiockkaaGreatDoor.Pp Go.Proofs.YtecjoofjiockkaaGreatDoor.Ext Go.Proofs.YtecjoofjiockkaaGreatDoorW.PrintWords Go.Proofs.YtecjoofjiockkaaGreatDoorW.PrintLast Go.Proofs.YtecjoofjiockkaaGreatDoorW.PrintMore
set_option linter.unusedVariables false
set_option linter.unusedSimpArgs false
theorem Ev.pure {α : Type} (v : α) : Ev (fun _ => some v) v := ⟨0, fun _ _ => rfl⟩
theorem Ev.same {α : Type} {F G : Nat → Option α} {v : α} (h : ∀ k, F k = G k) (hg : Ev G v) : Ev F v := Ev.congr h hg
theorem data_len (s : ByteArray) : s.data.toList.length = s.size := by rw [Array.length_toList]; rfl
theorem w_of (n : Nat) (m : Int) (h : m = (n : Int)) (hn : n ≤ 9223372036854775807) : wrap64 m = (n : Int) := by rw [h]; exact w64' (by omega) (by omega)
theorem bt_at (s : ByteArray) (j : Nat) (h : j < s.size) : (bt s (j : Int) = 10) ↔ s.data.toList[j]? = some 10 := by
  have hl : j < s.data.toList.length := by rw [data_len]; exact h
  rw [bt_list, List.getD_eq_getElem?_getD, List.getElem?_eq_getElem hl, Option.getD_some]
  constructor
  · intro e; congr 1; exact UInt8.toNat_inj.mp (by have : (10 : UInt8).toNat = 10 := rfl; omega)
  · intro e; injection e with e; rw [e]; rfl
theorem ix (s : ByteArray) : (Lib.indexByte s.data.toList 10 = -1 ∧ ∀ j : Nat, j < s.size → bt s (j : Int) ≠ 10) ∨
    (∃ o : Nat, o < s.size ∧ Lib.indexByte s.data.toList 10 = (o : Int) ∧ bt s (o : Int) = 10 ∧ ∀ j : Nat, j < o → bt s (j : Int) ≠ 10) := by
  have hge := Lib.indexByte_ge s.data.toList 10
  rcases (by omega : Lib.indexByte s.data.toList 10 = -1 ∨ 0 ≤ Lib.indexByte s.data.toList 10) with h | h
  · exact .inl ⟨h, fun j hj e => Lib.indexByte_none h j ((bt_at s j hj).mp e)⟩
  · obtain ⟨o, ho⟩ : ∃ o : Nat, Lib.indexByte s.data.toList 10 = o := ⟨_, (Int.toNat_of_nonneg h).symm⟩
    obtain ⟨h1, h2⟩ := Lib.indexByte_some ho
    have hlt : o < s.size := by
      rw [← data_len]
      exact (List.getElem?_eq_some_iff.mp h1).1
    exact .inr ⟨o, hlt, ho, (bt_at s o hlt).mpr h1, fun j hj e => h2 j hj ((bt_at s j (by omega)).mp e)⟩
theorem ixf (s : ByteArray) : strings_IndexByte.f s 10 = some (Lib.indexByte s.data.toList 10) := rfl
def whole (s : ByteArray) : Bool := decide (0 < s.size ∧ bt s ((s.size : Int) - 1) = 10)
def body (s : ByteArray) : Bool := decide (∀ j, j < s.size - 1 → bt s ((j : Nat) : Int) ≠ 10)
def line (s : ByteArray) : Bool := decide (0 < s.size) && body s
def validL : List ByteArray → Bool
  | [] => true
  | s :: t => line s && (t.isEmpty || whole s) && validL t
theorem nil_size (s : ByteArray) : s.toList = ([] : List UInt8) ↔ ¬ 0 < s.size := by rw [toList_nil]; omega
theorem drop_by {α : Type} (l : List α) (d : α) (i : Nat) (h : i < l.length) : l.drop i = l.getD i d :: l.drop (i + 1) := by
  rw [List.getD_eq_getElem?_getD, List.getElem?_eq_getElem h]
  exact List.drop_eq_getElem_cons h
theorem drop_empty {α : Type} (l : List α) (n : Nat) : (l.drop n).isEmpty = decide (l.length ≤ n) := by
  by_cases h : l.length ≤ n
  · rw [List.drop_of_length_le h, decide_eq_true h]; rfl
  · rw [decide_eq_false h]
    cases hd : l.drop n with
    | nil => have := congrArg List.length hd; rw [List.length_drop] at this; simp at this; omega
    | cons a b => rfl
theorem ask (s : ByteArray) (hs : s.size ≤ 4000000000) (more : Bool) (P : Prop) [Decidable P] (hP : P ↔ more = true) (F : Option Bool) (r : Bool) (hF : F = some r) :
    ((strings_IndexByte.f s 10).bind fun t111 => (if s.toList = ([] : List UInt8) then (some false) else (if t111 ≥ 0 then (if t111 < (wrap64 ((s.size : Int) - 1)) then (some false) else (if t111 < 0 then (if P then (some false) else F) else F)) else (if t111 < 0 then (if P then (some false) else F) else F)))) =
      some (line s && ((!more) || whole s) && r) := by
  rw [ixf, Option.bind_some]
  by_cases h0 : 0 < s.size
  · rw [if_neg (by rw [nil_size]; omega), w64' (by omega) (by omega)]
    have hl0 : decide (0 < s.size) = true := decide_eq_true h0
    rcases ix s with ⟨hx, hn⟩ | ⟨o, ho, hx, hb, hn⟩
    · rw [hx, if_neg (by omega), if_pos (by omega)]
      have hb : body s = true := decide_eq_true (fun j hj => hn j (by omega))
      have hw : whole s = false := decide_eq_false (fun hh => hn (s.size - 1) (by omega) (by rw [show ((s.size - 1 : Nat) : Int) = (s.size : Int) - 1 by omega]; exact hh.2))
      unfold line
      rw [hl0, hb, hw]
      cases more with
      | true => rw [if_pos (hP.mpr rfl)]; rfl
      | false => rw [if_neg (fun h => by have := hP.mp h; cases this), hF]; simp
    · rw [hx, if_pos (by omega)]
      by_cases hlt : (o : Int) < (s.size : Int) - 1
      · rw [if_pos hlt]
        have hb : body s = false := decide_eq_false (fun hh => hh o (by omega) hb)
        unfold line
        rw [hb]; simp
      · rw [if_neg hlt, if_neg (by omega), hF]
        have hb2 : body s = true := decide_eq_true (fun j hj => hn j (by omega))
        have hw : whole s = true := decide_eq_true ⟨h0, by rw [show (s.size : Int) - 1 = (o : Int) by omega]; exact hb⟩
        unfold line
        rw [hl0, hb2, hw]; simp
  · rw [if_pos (by rw [nil_size]; exact h0)]
    unfold line
    rw [decide_eq_false h0]; simp
theorem p_valid_at (l : List ByteArray) (hl : l.length ≤ 4000000000) (hs : ∀ s ∈ l, s.size ≤ 4000000000) (d : Nat) : ∀ i : Nat, i + d = l.length → Ev (fun k => lines_Valid.l0 k l l (l.length : Int) (i : Int)) (validL (l.drop i)) := by
  induction d with
  | zero =>
    intro i h
    rw [List.drop_of_length_le (by omega)]
    exact Ev.step (f := fun _ => some true) (fun k => by rw [lines_Valid.l0, if_neg (by omega)]) (Ev.pure _)
  | succ d ih =>
    intro i h
    have hi : i < l.length := by omega
    rw [drop_by l ByteArray.empty i hi]
    obtain ⟨s, hse⟩ : ∃ s, s = l.getD i ByteArray.empty := ⟨_, rfl⟩
    have hm : s ∈ l := by rw [hse, List.getD_eq_getElem?_getD, List.getElem?_eq_getElem hi]; exact List.getElem_mem hi
    obtain ⟨K, hK⟩ := ih (i + 1) (by omega)
    refine ⟨K + 1, fun k hk => ?_⟩
    obtain ⟨k, rfl⟩ : ∃ j, k = j + 1 := ⟨k - 1, by omega⟩
    show lines_Valid.l0 (k + 1) l l (l.length : Int) (i : Int) = some _
    rw [← hse, validL, lines_Valid.l0, if_pos (by omega), if_pos (by omega), if_pos (by omega), rd_nat, ← hse]
    rw [ask s (hs s hm) (!(l.drop (i + 1)).isEmpty) ((i : Int) < wrap64 ((l.length : Int) - 1)) ?_ _ (validL (l.drop (i + 1))) ?_, Bool.not_not]
    · rw [w64' (by omega) (by omega)]
      rw [drop_empty]
      simp only [Bool.not_eq_true', decide_eq_false_iff_not]
      omega
    · rw [w_of (i + 1) _ (by omega) (by omega)]
      exact hK k (by omega)
theorem p_valid (l : List ByteArray) (hl : l.length ≤ 4000000000) (hs : ∀ s ∈ l, s.size ≤ 4000000000) : Ev (fun k => lines_Valid.f k l) (validL l) := by
  have := p_valid_at l hl hs l.length 0 (by omega)
  rw [List.drop_zero] at this
  exact this
theorem r_body (l : List ByteArray) (i : Nat) (hi : i < l.length) (hl : l.length ≤ 4000000000) (s : ByteArray) (hse : s = l.getD i ByteArray.empty) (hs : s.size ≤ 4000000000) (r : Bool)
    (hr : Ev (fun k => selvageref01_Valid.l0 k l (wrap64 ((i : Int) + 1))) r) (d : Nat) : ∀ j : Nat, (j : Int) + d = max 0 ((s.size : Int) - 1) → (∀ x : Nat, x < j → bt s (x : Int) ≠ 10) →
    Ev (fun k => selvageref01_Valid.l1 k l (i : Int) (s.size : Int) (j : Int)) (line s && ((l.drop (i + 1)).isEmpty || whole s) && r) := by
  have he := drop_empty l (i + 1)
  induction d with
  | zero =>
    intro j hj hn
    have hb : body s = true := decide_eq_true (fun x hx => hn x (by omega))
    obtain ⟨K, hK⟩ := hr
    refine ⟨K + 1, fun k hk => ?_⟩
    obtain ⟨k, rfl⟩ : ∃ j, k = j + 1 := ⟨k - 1, by omega⟩
    have hKk : selvageref01_Valid.l0 k l (wrap64 ((i : Int) + 1)) = some r := hK k (by omega)
    show selvageref01_Valid.l1 (k + 1) l (i : Int) (s.size : Int) (j : Int) = some _
    rw [selvageref01_Valid.l1, w64' (i := (s.size : Int) - 1) (by omega) (by omega), w64' (i := (l.length : Int) - 1) (by omega) (by omega), if_neg (by omega), rd_nat, ← hse]
    unfold line
    rw [hb, he]
    by_cases h0 : 0 < s.size
    · rw [if_neg (by omega), decide_eq_true h0]
      by_cases hlast : l.length ≤ i + 1
      · rw [if_neg (by omega), hKk, decide_eq_true hlast]; simp
      · rw [if_pos (by omega), if_pos (by omega), if_pos (by omega), if_pos (by omega), if_pos (by omega), decide_eq_false hlast]
        by_cases hw : bt s ((s.size : Int) - 1) = 10
        · rw [if_pos hw, hKk, show whole s = true from decide_eq_true ⟨h0, hw⟩]; simp
        · rw [if_neg hw, show whole s = false from decide_eq_false (fun x => hw x.2)]; simp
    · rw [if_pos (by omega), decide_eq_false h0]; simp
  | succ d ih =>
    intro j hj hn
    by_cases hb : bt s (j : Int) = 10
    · refine Ev.step (f := fun _ => some (line s && ((l.drop (i + 1)).isEmpty || whole s) && r)) (fun k => ?_) (Ev.pure _)
      rw [selvageref01_Valid.l1, w64' (i := (s.size : Int) - 1) (by omega) (by omega), if_pos (by omega), if_pos (by omega), if_pos (by omega), if_pos (by omega), rd_nat, ← hse, if_pos (by omega), if_pos hb]
      have hb2 : body s = false := decide_eq_false (fun hh => hh j (by omega) hb)
      unfold line
      rw [hb2]; simp
    · refine Ev.step (fun k => ?_) (ih (j + 1) (by omega) (fun x hx => by rcases Nat.lt_or_ge x j with h' | h'; exact hn x h'; rw [show x = j by omega]; exact hb))
      rw [selvageref01_Valid.l1, w64' (i := (s.size : Int) - 1) (by omega) (by omega), if_pos (by omega), if_pos (by omega), if_pos (by omega), if_pos (by omega), rd_nat, ← hse, if_pos (by omega), if_neg hb, w_of (j + 1) _ (by omega) (by omega)]
theorem r_valid_at (l : List ByteArray) (hl : l.length ≤ 4000000000) (hs : ∀ s ∈ l, s.size ≤ 4000000000) (d : Nat) : ∀ i : Nat, i + d = l.length → Ev (fun k => selvageref01_Valid.l0 k l (i : Int)) (validL (l.drop i)) := by
  induction d with
  | zero =>
    intro i h
    rw [List.drop_of_length_le (by omega)]
    exact Ev.step (f := fun _ => some true) (fun k => by rw [selvageref01_Valid.l0, if_neg (by omega)]) (Ev.pure _)
  | succ d ih =>
    intro i h
    have hi : i < l.length := by omega
    rw [drop_by l ByteArray.empty i hi]
    obtain ⟨s, hse⟩ : ∃ s, s = l.getD i ByteArray.empty := ⟨_, rfl⟩
    have hm : s ∈ l := by rw [hse, List.getD_eq_getElem?_getD, List.getElem?_eq_getElem hi]; exact List.getElem_mem hi
    have h2 := r_body l i hi hl s hse (hs s hm) (validL (l.drop (i + 1))) (Ev.same (G := fun k => selvageref01_Valid.l0 k l ((i + 1 : Nat) : Int)) (fun k => by rw [w_of (i + 1) _ (by omega) (by omega)]) (ih (i + 1) (by omega))) (max 0 ((s.size : Int) - 1)).toNat 0 (by omega) (fun x hx => by omega)
    rw [← hse, validL]
    refine Ev.step (fun k => ?_) h2
    rw [selvageref01_Valid.l0, if_pos (by omega), if_pos (by omega), rd_nat, ← hse]
    rfl
theorem r_valid (l : List ByteArray) (hl : l.length ≤ 4000000000) (hs : ∀ s ∈ l, s.size ≤ 4000000000) : Ev (fun k => selvageref01_Valid.f k l) (validL l) := by
  have := r_valid_at l hl hs l.length 0 (by omega)
  rw [List.drop_zero] at this
  exact this
theorem last_byte (s : ByteArray) (n : Nat) (hn : s.size = n + 1) : ∃ b : UInt8, s.data.toList = s.data.toList.take n ++ [b] ∧ bt s (n : Int) = (b.toNat : Int) := by
  have hl : n < s.data.toList.length := by rw [data_len]; omega
  refine ⟨s.data.toList[n], ?_, ?_⟩
  · have h1 := List.take_append_drop n s.data.toList
    rw [List.drop_eq_getElem_cons hl, List.drop_of_length_le (by rw [data_len]; omega)] at h1
    exact h1.symm
  · rw [bt_list, List.getD_eq_getElem?_getD, List.getElem?_eq_getElem hl]; rfl
theorem suffix_at (s : ByteArray) (hs : s.size ≤ 4000000000) : stringslite_HasSuffix.f s (⟨#[10]⟩ : ByteArray) = some (whole s) := by
  unfold stringslite_HasSuffix.f
  have h1 : (⟨#[10]⟩ : ByteArray).size = 1 := rfl
  rw [h1]
  by_cases h : 0 < s.size
  · obtain ⟨n, hn⟩ : ∃ n, s.size = n + 1 := ⟨s.size - 1, by omega⟩
    have w : wrap64 ((s.size : Int) - ((1 : Nat) : Int)) = (n : Int) := by rw [w64' (by omega) (by omega)]; omega
    obtain ⟨b, hb, hv⟩ := last_byte s n hn
    have hsuf : (s.extract n s.size).toList = [b] := by
      rw [Lib.toList_data, Lib.extract_data, hb, List.drop_left' (by rw [List.length_take, data_len]; omega), hn, show n + 1 - n = 1 by omega]; rfl
    have h10 : (⟨#[10]⟩ : ByteArray).toList = ([10] : List UInt8) := by rw [Lib.toList_data]
    rw [if_pos (by omega), w, if_pos (by omega), if_pos (by omega), Int.toNat_natCast, hsuf, h10]
    unfold whole
    rw [show (s.size : Int) - 1 = (n : Int) by omega, hv]
    congr 1
    by_cases e : b = 10
    · rw [e, decide_eq_true ⟨h, by rfl⟩]; rfl
    · have hne : ¬ (b.toNat : Int) = 10 := fun x => e (UInt8.toNat_inj.mp (by have : (10 : UInt8).toNat = 10 := rfl; omega))
      rw [decide_eq_false (fun x => hne x.2)]
      simp [e]
  · rw [if_neg (by omega)]
    unfold whole
    rw [decide_eq_false (fun x => h x.1)]
theorem whole_at (s : ByteArray) (hs : s.size ≤ 4000000000) : lines_Whole.f s = some (whole s) := by
  unfold lines_Whole.f strings_HasSuffix.f
  rw [suffix_at s hs]; rfl
theorem r_whole_at (s : ByteArray) (hs : s.size ≤ 4000000000) : selvageref01_Whole.f s = some (whole s) := by
  unfold selvageref01_Whole.f whole
  by_cases h : 0 < s.size
  · rw [if_pos (by omega), w64' (by omega) (by omega), if_pos (by omega), if_pos (by omega)]
    congr 1
    by_cases e : bt s ((s.size : Int) - 1) = 10
    · rw [e, decide_eq_true ⟨h, rfl⟩]; rfl
    · rw [decide_eq_false (fun x => e x.2)]
      exact beq_eq_false_iff_ne.mpr e
  · rw [if_neg (by omega), decide_eq_false (fun x => h x.1)]
end Go.Proofs.YtecjoofjiockkaaGreatDoor.Pure
namespace Go.Proofs.YtecjoofjiockkaaGreatDoor.Pure
open Go.RowKit Go.Proofs.YtecjoofjiockkaaGreatDoor.Pp Go.Proofs.YtecjoofjiockkaaGreatDoor.Ext Go.Proofs.YtecjoofjiockkaaGreatDoorW.PrintWords Go.Proofs.YtecjoofjiockkaaGreatDoorW.PrintLast Go.Proofs.YtecjoofjiockkaaGreatDoorW.PrintMore
set_option linter.unusedVariables false
set_option linter.unusedSimpArgs false
theorem drop49 (s : List S49) (i : Nat) (h : i < s.length) : s.drop i = rd_T49 s (i : Int) :: s.drop (i + 1) := by
  unfold rd_T49
  rw [Int.toNat_natCast, List.getD_eq_getElem?_getD, List.getElem?_eq_getElem h]
  exact List.drop_eq_getElem_cons h
def okC (n m a b : Int) (c : S49) : Prop :=
  0 ≤ c.f1 ∧ 0 ≤ c.f3 ∧ (c.f1 ≠ 0 ∨ c.f3 ≠ 0) ∧ a ≤ c.f0 ∧ c.f0 ≤ n ∧ b ≤ c.f2 ∧ c.f2 ≤ m ∧ c.f0 - a = c.f2 - b ∧ c.f1 ≤ n - c.f0 ∧ c.f3 ≤ m - c.f2
def validP (n m : Int) : List S49 → Int → Int → Prop
  | [], a, b => n - a = m - b
  | c :: t, a, b => okC n m a b c ∧ validP n m t (c.f0 + c.f1) (c.f2 + c.f3)
open Classical in
noncomputable def errP (p : Prop) : Option Int := if p then none else some 60
theorem errP_pos {p : Prop} (h : p) : errP p = none := by unfold errP; rw [if_pos h]
theorem errP_neg {p : Prop} (h : ¬ p) : errP p = some 60 := by unfold errP; rw [if_neg h]
set_option maxHeartbeats 1000000 in
theorem valid_step (n m a b : Int) (s : List S49) (i : Nat) (hi : i < s.length) (hs : s.length ≤ 4000000000) (hn : n ≤ 4194304) (hm : m ≤ 4194304) (ha : 0 ≤ a) (hb : 0 ≤ b) (k : Nat) :
    (okC n m a b (rd_T49 s (i : Int)) → edits_Valid.l0 (k + 1) n m a b s (s.length : Int) (i : Int) = edits_Valid.l0 k n m ((rd_T49 s (i : Int)).f0 + (rd_T49 s (i : Int)).f1) ((rd_T49 s (i : Int)).f2 + (rd_T49 s (i : Int)).f3) s (s.length : Int) ((i + 1 : Nat) : Int)) ∧
    (¬ okC n m a b (rd_T49 s (i : Int)) → edits_Valid.l0 (k + 1) n m a b s (s.length : Int) (i : Int) = some (some 60)) := by
  have w1 : wrap64 ((i : Int) + 1) = ((i + 1 : Nat) : Int) := w_add i 1 (by omega)
  generalize hc : rd_T49 s (i : Int) = c
  constructor
  · rintro ⟨h1, h2, h3, h4, h5, h6, h7, h8, h9, h10⟩
    have e1 : wrap64 (c.f0 - a) = c.f0 - a := w64' (by omega) (by omega)
    have e2 : wrap64 (c.f2 - b) = c.f2 - b := w64' (by omega) (by omega)
    have e3 : wrap64 (n - c.f0) = n - c.f0 := w64' (by omega) (by omega)
    have e4 : wrap64 (m - c.f2) = m - c.f2 := w64' (by omega) (by omega)
    have e5 : wrap64 (c.f0 + c.f1) = c.f0 + c.f1 := w64' (by omega) (by omega)
    have e6 : wrap64 (c.f2 + c.f3) = c.f2 + c.f3 := w64' (by omega) (by omega)
    simp only [edits_Valid.l0, hc, w1, e1, e2, e3, e4, e5, e6]
    rw [if_pos (by omega), if_pos (by omega), if_pos (by omega), if_neg (by omega), if_neg (by omega)]
    by_cases z : c.f1 = 0
    · rw [if_pos z, if_neg (by omega), if_neg (by omega), if_neg (by omega), if_neg (by omega), if_neg (by omega), if_pos h8, if_neg (by omega), if_neg (by omega)]
    · rw [if_neg z, if_neg (by omega), if_neg (by omega), if_neg (by omega), if_neg (by omega), if_pos h8, if_neg (by omega), if_neg (by omega)]
  · intro hno
    simp only [edits_Valid.l0, hc]
    rw [if_pos (by omega), if_pos (by omega), if_pos (by omega)]
    by_cases q1 : c.f1 < 0
    · rw [if_pos q1]
    rw [if_neg q1]
    by_cases q2 : c.f3 < 0
    · rw [if_pos q2]
    rw [if_neg q2]
    by_cases z : c.f1 = 0
    · rw [if_pos z]
      by_cases z3 : c.f3 = 0
      · rw [if_pos z3]
      rw [if_neg z3]
      by_cases q3 : c.f0 < a
      · rw [if_pos q3]
      rw [if_neg q3]
      by_cases q4 : c.f0 > n
      · rw [if_pos q4]
      rw [if_neg q4]
      by_cases q5 : c.f2 < b
      · rw [if_pos q5]
      rw [if_neg q5]
      by_cases q6 : c.f2 > m
      · rw [if_pos q6]
      rw [if_neg q6]
      have e1 : wrap64 (c.f0 - a) = c.f0 - a := w64' (by omega) (by omega)
      have e2 : wrap64 (c.f2 - b) = c.f2 - b := w64' (by omega) (by omega)
      have e3 : wrap64 (n - c.f0) = n - c.f0 := w64' (by omega) (by omega)
      have e4 : wrap64 (m - c.f2) = m - c.f2 := w64' (by omega) (by omega)
      rw [e1, e2]
      by_cases q7 : c.f0 - a = c.f2 - b
      case neg => rw [if_neg q7]
      rw [if_pos q7, e3]
      by_cases q8 : c.f1 > n - c.f0
      · rw [if_pos q8]
      rw [if_neg q8]
      rw [e4]
      by_cases q9 : c.f3 > m - c.f2
      · rw [if_pos q9]
      rw [if_neg q9]
      exact absurd ⟨by omega, by omega, by omega, by omega, by omega, by omega, by omega, q7, by omega, by omega⟩ hno
    · rw [if_neg z]
      by_cases q3 : c.f0 < a
      · rw [if_pos q3]
      rw [if_neg q3]
      by_cases q4 : c.f0 > n
      · rw [if_pos q4]
      rw [if_neg q4]
      by_cases q5 : c.f2 < b
      · rw [if_pos q5]
      rw [if_neg q5]
      by_cases q6 : c.f2 > m
      · rw [if_pos q6]
      rw [if_neg q6]
      have e1 : wrap64 (c.f0 - a) = c.f0 - a := w64' (by omega) (by omega)
      have e2 : wrap64 (c.f2 - b) = c.f2 - b := w64' (by omega) (by omega)
      have e3 : wrap64 (n - c.f0) = n - c.f0 := w64' (by omega) (by omega)
      have e4 : wrap64 (m - c.f2) = m - c.f2 := w64' (by omega) (by omega)
      rw [e1, e2]
      by_cases q7 : c.f0 - a = c.f2 - b
      case neg => rw [if_neg q7]
      rw [if_pos q7, e3]
      by_cases q8 : c.f1 > n - c.f0
      · rw [if_pos q8]
      rw [if_neg q8]
      rw [e4]
      by_cases q9 : c.f3 > m - c.f2
      · rw [if_pos q9]
      rw [if_neg q9]
      exact absurd ⟨by omega, by omega, by omega, by omega, by omega, by omega, by omega, q7, by omega, by omega⟩ hno
theorem valid_loop (n m : Int) (s : List S49) (hs : s.length ≤ 4000000000) (hn : n ≤ 4194304) (hm : m ≤ 4194304) (d : Nat) : ∀ (i : Nat) (a b : Int), i + d = s.length → 0 ≤ a → a ≤ n → 0 ≤ b → b ≤ m →
    Ev (fun k => edits_Valid.l0 k n m a b s (s.length : Int) (i : Int)) (errP (validP n m (s.drop i) a b)) := by
  induction d with
  | zero =>
    intro i a b hd ha han hb hbm
    rw [List.drop_of_length_le (by omega)]
    refine Ev.step (f := fun _ => some (errP (validP n m [] a b))) (fun k => ?_) (Ev.pure _)
    have e1 : wrap64 (n - a) = n - a := w64' (by omega) (by omega)
    have e2 : wrap64 (m - b) = m - b := w64' (by omega) (by omega)
    simp only [edits_Valid.l0, e1, e2]
    rw [if_neg (by omega)]
    by_cases h : n - a = m - b
    · rw [if_pos h, errP_pos (show validP n m [] a b from h)]
    · rw [if_neg h, errP_neg (show ¬ validP n m [] a b from h)]
  | succ d ih =>
    intro i a b hd ha han hb hbm
    have hst := fun k => valid_step n m a b s i (by omega) hs hn hm ha hb k
    rw [drop49 s i (by omega)]
    by_cases h : okC n m a b (rd_T49 s (i : Int))
    · refine Ev.step (fun k => (hst k).1 h) ?_
      have hk := h
      obtain ⟨h1, h2, h3, h4, h5, h6, h7, h8, h9, h10⟩ := hk
      have := ih (i + 1) ((rd_T49 s (i : Int)).f0 + (rd_T49 s (i : Int)).f1) ((rd_T49 s (i : Int)).f2 + (rd_T49 s (i : Int)).f3) (by omega) (by omega) (by omega) (by omega) (by omega)
      have e : validP n m (rd_T49 s (i : Int) :: s.drop (i + 1)) a b = validP n m (s.drop (i + 1)) ((rd_T49 s (i : Int)).f0 + (rd_T49 s (i : Int)).f1) ((rd_T49 s (i : Int)).f2 + (rd_T49 s (i : Int)).f3) := propext ⟨fun x => x.2, fun x => ⟨h, x⟩⟩
      rw [e]
      exact this
    · refine Ev.step (f := fun _ => some (some 60)) (fun k => (hst k).2 h) ?_
      rw [errP_neg (fun x => h x.1)]
      exact Ev.pure _
noncomputable def validS (s : List S49) (n m : Int) : Option Int := if n > 4194304 ∨ m > 4194304 then some 1 else errP (validP n m s 0 0)
theorem valid_at (s : List S49) (hs : s.length ≤ 4000000000) (n m : Int) (hn : 0 ≤ n) (hm : 0 ≤ m) : Ev (fun k => edits_Valid.f k s n m) (validS s n m) := by
  unfold validS
  have jt : Ev (fun k => edits_Valid.j0 k s n m true) (some 1) := Ev.step (f := fun _ => some (some 1)) (fun k => by simp [edits_Valid.j0]) (Ev.pure _)
  by_cases h1 : n > 4194304
  · rw [if_pos (Or.inl h1)]
    refine Ev.same (fun k => ?_) jt
    unfold edits_Valid.f
    rw [if_neg (by omega), if_pos h1]
  · by_cases h2 : m > 4194304
    · rw [if_pos (Or.inr h2)]
      refine Ev.same (fun k => ?_) jt
      unfold edits_Valid.f
      rw [if_neg (by omega), if_neg h1, if_neg (by omega), decide_eq_true h2]
    · rw [if_neg (by omega)]
      refine Ev.same (G := fun k => edits_Valid.j0 k s n m false) (fun k => ?_) ?_
      · unfold edits_Valid.f
        rw [if_neg (by omega), if_neg h1, if_neg (by omega), decide_eq_false h2]
      · refine Ev.step (f := fun k => edits_Valid.l0 k n m 0 0 s (s.length : Int) 0) (fun k => by simp [edits_Valid.j0]) ?_
        exact valid_loop n m s hs (by omega) (by omega) s.length 0 0 0 (by omega) (by omega) hn (by omega) hm
def num (o : Option Int) : Int := o.getD 0
set_option maxHeartbeats 1000000 in
theorem rvalid_step (n m a b : Int) (s : List S49) (i : Nat) (hi : i < s.length) (hs : s.length ≤ 4000000000) (hn : n ≤ 4194304) (hm : m ≤ 4194304) (ha : 0 ≤ a) (hb : 0 ≤ b) (k : Nat) :
    (okC n m a b (rd_T49 s (i : Int)) → selvageref06_Valid.l0 (k + 1) s n m a b (i : Int) = selvageref06_Valid.l0 k s n m ((rd_T49 s (i : Int)).f0 + (rd_T49 s (i : Int)).f1) ((rd_T49 s (i : Int)).f2 + (rd_T49 s (i : Int)).f3) ((i + 1 : Nat) : Int)) ∧
    (¬ okC n m a b (rd_T49 s (i : Int)) → selvageref06_Valid.l0 (k + 1) s n m a b (i : Int) = some 60) := by
  have w1 : wrap64 ((i : Int) + 1) = ((i + 1 : Nat) : Int) := w_add i 1 (by omega)
  generalize hc : rd_T49 s (i : Int) = c
  constructor
  · rintro ⟨h1, h2, h3, h4, h5, h6, h7, h8, h9, h10⟩
    have e1 : wrap64 (c.f0 - a) = c.f0 - a := w64' (by omega) (by omega)
    have e2 : wrap64 (c.f2 - b) = c.f2 - b := w64' (by omega) (by omega)
    have e3 : wrap64 (n - c.f0) = n - c.f0 := w64' (by omega) (by omega)
    have e4 : wrap64 (m - c.f2) = m - c.f2 := w64' (by omega) (by omega)
    have e5 : wrap64 (c.f0 + c.f1) = c.f0 + c.f1 := w64' (by omega) (by omega)
    have e6 : wrap64 (c.f2 + c.f3) = c.f2 + c.f3 := w64' (by omega) (by omega)
    simp only [selvageref06_Valid.l0, hc, w1, e1, e2, e3, e4, e5, e6]
    rw [if_pos (by omega), if_pos (by omega), if_neg (by omega), if_neg (by omega), if_neg (by omega), if_neg (by omega), if_pos h8, if_neg (by omega), if_neg (by omega), if_neg (by omega), if_neg (by omega)]
    by_cases z : c.f1 = 0
    · rw [if_pos z, if_neg (by omega)]
    · rw [if_neg z]
  · intro hno
    simp only [selvageref06_Valid.l0, hc]
    rw [if_pos (by omega), if_pos (by omega)]
    by_cases q3 : c.f0 < a
    · rw [if_pos q3]
    rw [if_neg q3]
    by_cases q5 : c.f2 < b
    · rw [if_pos q5]
    rw [if_neg q5]
    by_cases q4 : c.f0 > n
    · rw [if_pos q4]
    rw [if_neg q4]
    by_cases q6 : c.f2 > m
    · rw [if_pos q6]
    rw [if_neg q6]
    have e1 : wrap64 (c.f0 - a) = c.f0 - a := w64' (by omega) (by omega)
    have e2 : wrap64 (c.f2 - b) = c.f2 - b := w64' (by omega) (by omega)
    have e3 : wrap64 (n - c.f0) = n - c.f0 := w64' (by omega) (by omega)
    have e4 : wrap64 (m - c.f2) = m - c.f2 := w64' (by omega) (by omega)
    rw [e1, e2]
    by_cases q7 : c.f0 - a = c.f2 - b
    case neg => rw [if_neg q7]
    rw [if_pos q7]
    by_cases q1 : c.f1 < 0
    · rw [if_pos q1]
    rw [if_neg q1]
    by_cases q2 : c.f3 < 0
    · rw [if_pos q2]
    rw [if_neg q2]
    rw [e3]
    by_cases q8 : c.f1 > n - c.f0
    · rw [if_pos q8]
    rw [if_neg q8]
    rw [e4]
    by_cases q9 : c.f3 > m - c.f2
    · rw [if_pos q9]
    rw [if_neg q9]
    by_cases z : c.f1 = 0
    · rw [if_pos z]
      by_cases z3 : c.f3 = 0
      · rw [if_pos z3]
      rw [if_neg z3]
      exact absurd ⟨by omega, by omega, by omega, by omega, by omega, by omega, by omega, q7, by omega, by omega⟩ hno
    · exact absurd ⟨by omega, by omega, by omega, by omega, by omega, by omega, by omega, q7, by omega, by omega⟩ hno
theorem rvalid_loop (n m : Int) (s : List S49) (hs : s.length ≤ 4000000000) (hn : n ≤ 4194304) (hm : m ≤ 4194304) (d : Nat) : ∀ (i : Nat) (a b : Int), i + d = s.length → 0 ≤ a → a ≤ n → 0 ≤ b → b ≤ m →
    Ev (fun k => selvageref06_Valid.l0 k s n m a b (i : Int)) (num (errP (validP n m (s.drop i) a b))) := by
  induction d with
  | zero =>
    intro i a b hd ha han hb hbm
    rw [List.drop_of_length_le (by omega)]
    refine Ev.step (f := fun _ => some (num (errP (validP n m [] a b)))) (fun k => ?_) (Ev.pure _)
    have e1 : wrap64 (n - a) = n - a := w64' (by omega) (by omega)
    have e2 : wrap64 (m - b) = m - b := w64' (by omega) (by omega)
    simp only [selvageref06_Valid.l0, e1, e2]
    rw [if_neg (by omega)]
    by_cases h : n - a = m - b
    · rw [if_pos h, errP_pos (show validP n m [] a b from h)]; rfl
    · rw [if_neg h, errP_neg (show ¬ validP n m [] a b from h)]; rfl
  | succ d ih =>
    intro i a b hd ha han hb hbm
    have hst := fun k => rvalid_step n m a b s i (by omega) hs hn hm ha hb k
    rw [drop49 s i (by omega)]
    by_cases h : okC n m a b (rd_T49 s (i : Int))
    · refine Ev.step (fun k => (hst k).1 h) ?_
      have hk := h
      obtain ⟨h1, h2, h3, h4, h5, h6, h7, h8, h9, h10⟩ := hk
      have := ih (i + 1) ((rd_T49 s (i : Int)).f0 + (rd_T49 s (i : Int)).f1) ((rd_T49 s (i : Int)).f2 + (rd_T49 s (i : Int)).f3) (by omega) (by omega) (by omega) (by omega) (by omega)
      have e : validP n m (rd_T49 s (i : Int) :: s.drop (i + 1)) a b = validP n m (s.drop (i + 1)) ((rd_T49 s (i : Int)).f0 + (rd_T49 s (i : Int)).f1) ((rd_T49 s (i : Int)).f2 + (rd_T49 s (i : Int)).f3) := propext ⟨fun x => x.2, fun x => ⟨h, x⟩⟩
      rw [e]
      exact this
    · refine Ev.step (f := fun _ => some 60) (fun k => (hst k).2 h) ?_
      rw [errP_neg (fun x => h x.1)]
      exact Ev.pure _
theorem rvalid_at (s : List S49) (hs : s.length ≤ 4000000000) (n m : Int) (hn : 0 ≤ n) (hm : 0 ≤ m) : Ev (fun k => selvageref06_Valid.f k s n m) (num (validS s n m)) := by
  unfold validS
  have jt : Ev (fun k => selvageref06_Valid.j0 k s n m true) 1 := Ev.step (f := fun _ => some 1) (fun k => by simp [selvageref06_Valid.j0]) (Ev.pure _)
  by_cases h1 : n > 4194304
  · rw [if_pos (Or.inl h1)]
    refine Ev.same (fun k => ?_) jt
    unfold selvageref06_Valid.f
    rw [if_neg (by omega), if_pos h1]
  · by_cases h2 : m > 4194304
    · rw [if_pos (Or.inr h2)]
      refine Ev.same (fun k => ?_) jt
      unfold selvageref06_Valid.f
      rw [if_neg (by omega), if_neg h1, if_neg (by omega), decide_eq_true h2]
    · rw [if_neg (by omega)]
      refine Ev.same (G := fun k => selvageref06_Valid.j0 k s n m false) (fun k => ?_) ?_
      · unfold selvageref06_Valid.f
        rw [if_neg (by omega), if_neg h1, if_neg (by omega), decide_eq_false h2]
      · refine Ev.step (f := fun k => selvageref06_Valid.l0 k s n m 0 0 0) (fun k => by simp [selvageref06_Valid.j0]) ?_
        exact rvalid_loop n m s hs (by omega) (by omega) s.length 0 0 0 (by omega) (by omega) hn (by omega) hm
end Go.Proofs.YtecjoofjiockkaaGreatDoor.Pure
namespace Go.Proofs.YtecjoofjiockkaaGreatDoor.Pure
open Go.RowKit Go.Proofs.YtecjoofjiockkaaGreatDoor.Pp Go.Proofs.YtecjoofjiockkaaGreatDoor.Ext Go.Proofs.YtecjoofjiockkaaGreatDoorW.PrintWords Go.Proofs.YtecjoofjiockkaaGreatDoorW.PrintLast Go.Proofs.YtecjoofjiockkaaGreatDoorW.PrintMore
set_option linter.unusedVariables false
set_option linter.unusedSimpArgs false
theorem drop94 (s : List S94) (i : Nat) (h : i < s.length) : s.drop i = rd_T94 s (i : Int) :: s.drop (i + 1) := by
  unfold rd_T94
  rw [Int.toNat_natCast, List.getD_eq_getElem?_getD, List.getElem?_eq_getElem h]
  exact List.drop_eq_getElem_cons h
def runP (a b : Int) : Nat → List S94
  | 0 => []
  | d + 1 => ⟨a, b⟩ :: runP (a + 1) (b + 1) d
theorem runP_length (d : Nat) : ∀ a b, (runP a b d).length = d := by
  induction d with
  | zero => intro a b; rfl
  | succ d ih => intro a b; simp only [runP, List.length_cons, ih]
def pairsL (n : Int) : List S49 → Int → Int → List S94
  | [], a, b => runP a b (n - a).toNat
  | c :: t, a, b => runP a b (c.f0 - a).toNat ++ pairsL n t (c.f0 + c.f1) (c.f2 + c.f3)
theorem pairsL_length (n m : Int) : ∀ (s : List S49) (a b : Int), validP n m s a b → a ≤ n → ((pairsL n s a b).length : Int) ≤ n - a
  | [], a, b, _, h => by
    simp only [pairsL, runP_length]; omega
  | c :: t, a, b, hv, h => by
    obtain ⟨⟨h1, h2, h3, h4, h5, h6, h7, h8, h9, h10⟩, hv2⟩ := hv
    have := pairsL_length n m t (c.f0 + c.f1) (c.f2 + c.f3) hv2 (by omega)
    simp only [pairsL, List.length_append, runP_length]
    omega
theorem pairs_inner (s : List S49) (n : Int) (i : Nat) (tt : Int) (htt : tt ≤ 4194304) {v : List S94} (d : Nat) : ∀ (out : List S94) (a b : Int), a + (d : Int) = tt → 0 ≤ a → 0 ≤ b → b + (d : Int) ≤ 4194304 → out.length + d ≤ 8000000 →
    Ev (fun k => if (i : Int) < (s.length : Int) then (if 0 ≤ (i : Int) then selvageref06_pairs.l0 k s n (out ++ runP a b d) (wrap64 ((rd_T49 s (i : Int)).f0 + (rd_T49 s (i : Int)).f1)) (wrap64 ((rd_T49 s (i : Int)).f2 + (rd_T49 s (i : Int)).f3)) (wrap64 ((i : Int) + 1)) else none)
      else selvageref06_pairs.l0 k s n (out ++ runP a b d) tt (b + (d : Int)) (wrap64 ((i : Int) + 1))) v →
    Ev (fun k => selvageref06_pairs.l1 k s n out a b (i : Int) tt) v := by
  induction d with
  | zero =>
    intro out a b h ha hb hb2 ho he
    refine Ev.step (fun k => ?_) he
    obtain rfl : a = tt := by omega
    simp only [selvageref06_pairs.l1, runP, List.append_nil]
    rw [if_neg (by omega), show b + ((0 : Nat) : Int) = b by omega]
  | succ d ih =>
    intro out a b h ha hb hb2 ho he
    have e1 : wrap64 (a + 1) = a + 1 := w64' (by omega) (by omega)
    have e2 : wrap64 (b + 1) = b + 1 := w64' (by omega) (by omega)
    refine Ev.step (f := fun k => selvageref06_pairs.l1 k s n (out ++ [⟨a, b⟩]) (a + 1) (b + 1) (i : Int) tt) (fun k => ?_) (ih (out ++ [⟨a, b⟩]) (a + 1) (b + 1) (by omega) (by omega) (by omega) (by omega) (by rw [List.length_append, List.length_singleton]; omega) ?_)
    · simp only [selvageref06_pairs.l1, e1, e2]
      rw [if_pos (by omega), if_pos (by omega)]
    · have e : (out ++ [(⟨a, b⟩ : S94)]) ++ runP (a + 1) (b + 1) d = out ++ runP a b (d + 1) := by rw [List.append_assoc]; rfl
      rw [e, show b + 1 + (d : Int) = b + ((d + 1 : Nat) : Int) by omega]
      exact he
theorem pairs_loop (s : List S49) (n m : Int) (hn : n ≤ 4194304) (hm : m ≤ 4194304) (hs : s.length ≤ 4000000000) (d : Nat) : ∀ (i : Nat) (out : List S94) (a b : Int), i + d = s.length → validP n m (s.drop i) a b → 0 ≤ a → a ≤ n → 0 ≤ b → b ≤ m → (out.length : Int) ≤ a →
    Ev (fun k => selvageref06_pairs.l0 k s n out a b (i : Int)) (out ++ pairsL n (s.drop i) a b) := by
  have w1 : ∀ i : Nat, i ≤ 4000000000 → wrap64 ((i : Int) + 1) = ((i + 1 : Nat) : Int) := fun i h => w_add i 1 (by omega)
  induction d with
  | zero =>
    intro i out a b hd hv ha han hb hbm ho
    rw [List.drop_of_length_le (by omega)] at hv ⊢
    have hv' : n - a = m - b := hv
    refine Ev.step (f := fun k => selvageref06_pairs.j1 k s n out a b (i : Int) n) (fun k => ?_) ?_
    · simp only [selvageref06_pairs.l0]
      rw [if_pos (by omega), if_neg (by omega)]
    · refine Ev.step (f := fun k => selvageref06_pairs.l1 k s n out a b (i : Int) n) (fun k => by simp only [selvageref06_pairs.j1]) ?_
      refine pairs_inner s n i n hn (n - a).toNat out a b (by omega) ha hb (by omega) (by omega) ?_
      refine Ev.same (G := fun k => selvageref06_pairs.l0 k s n (out ++ runP a b (n - a).toNat) n (b + ((n - a).toNat : Int)) ((i + 1 : Nat) : Int)) (fun k => ?_) ?_
      · rw [if_neg (by omega), w1 i (by omega)]
      · refine Ev.step (f := fun _ => some (out ++ runP a b (n - a).toNat)) (fun k => ?_) (Ev.pure _)
        simp only [selvageref06_pairs.l0]
        rw [if_neg (by omega)]
  | succ d ih =>
    intro i out a b hd hv ha han hb hbm ho
    rw [drop49 s i (by omega)] at hv ⊢
    obtain ⟨⟨h1, h2, h3, h4, h5, h6, h7, h8, h9, h10⟩, hv2⟩ := hv
    have e5 : wrap64 ((rd_T49 s (i : Int)).f0 + (rd_T49 s (i : Int)).f1) = (rd_T49 s (i : Int)).f0 + (rd_T49 s (i : Int)).f1 := w64' (by omega) (by omega)
    have e6 : wrap64 ((rd_T49 s (i : Int)).f2 + (rd_T49 s (i : Int)).f3) = (rd_T49 s (i : Int)).f2 + (rd_T49 s (i : Int)).f3 := w64' (by omega) (by omega)
    refine Ev.step (f := fun k => selvageref06_pairs.j1 k s n out a b (i : Int) (rd_T49 s (i : Int)).f0) (fun k => ?_) ?_
    · simp only [selvageref06_pairs.l0]
      rw [if_pos (by omega), if_pos (by omega), if_pos (by omega)]
    · refine Ev.step (f := fun k => selvageref06_pairs.l1 k s n out a b (i : Int) (rd_T49 s (i : Int)).f0) (fun k => by simp only [selvageref06_pairs.j1]) ?_
      refine pairs_inner s n i _ (by omega) ((rd_T49 s (i : Int)).f0 - a).toNat out a b (by omega) ha hb (by omega) (by omega) ?_
      refine Ev.same (G := fun k => selvageref06_pairs.l0 k s n (out ++ runP a b ((rd_T49 s (i : Int)).f0 - a).toNat) ((rd_T49 s (i : Int)).f0 + (rd_T49 s (i : Int)).f1) ((rd_T49 s (i : Int)).f2 + (rd_T49 s (i : Int)).f3) ((i + 1 : Nat) : Int)) (fun k => ?_) ?_
      · rw [if_pos (by omega), if_pos (by omega), w1 i (by omega), e5, e6]
      · have := ih (i + 1) (out ++ runP a b ((rd_T49 s (i : Int)).f0 - a).toNat) _ _ (by omega) hv2 (by omega) (by omega) (by omega) (by omega) (by rw [List.length_append, runP_length]; omega)
        rw [List.append_assoc] at this
        exact this
def gap (a b x y : Int) : List S49 := if a < x ∨ b < y then [⟨a, x - a, b, y - b⟩] else []
theorem gap_none (a b : Int) : gap a b a b = [] := by unfold gap; rw [if_neg (by omega)]
theorem gap_some {a b x y : Int} (h : a < x ∨ b < y) : gap a b x y = [⟨a, x - a, b, y - b⟩] := by unfold gap; rw [if_pos h]
def ofS (n m : Int) : List S94 → Int → Int → List S49
  | [], a, b => gap a b n m
  | p :: t, a, b => gap a b p.f0 p.f1 ++ ofS n m t (p.f0 + 1) (p.f1 + 1)
def inO (n m : Int) : List S94 → Int → Int → Prop
  | [], _, _ => True
  | p :: t, a, b => a ≤ p.f0 ∧ b ≤ p.f1 ∧ p.f0 < n ∧ p.f1 < m ∧ inO n m t (p.f0 + 1) (p.f1 + 1)
theorem inO_weaken {n m : Int} {l : List S94} {a b a' b' : Int} (h : inO n m l a b) (ha : a' ≤ a) (hb : b' ≤ b) : inO n m l a' b' := by
  cases l with
  | nil => exact trivial
  | cons p t => obtain ⟨h1, h2, h3⟩ := h; exact ⟨by omega, by omega, h3⟩
theorem inO_run {n m : Int} {rest : List S94} (d : Nat) : ∀ (a b pa pb : Int), pa ≤ a → pb ≤ b → a + (d : Int) ≤ n → b + (d : Int) ≤ m → inO n m rest (a + (d : Int)) (b + (d : Int)) → inO n m (runP a b d ++ rest) pa pb := by
  induction d with
  | zero => intro a b pa pb h1 h2 h3 h4 h; exact inO_weaken h (by omega) (by omega)
  | succ d ih =>
    intro a b pa pb h1 h2 h3 h4 h
    refine ⟨h1, h2, by show a < n; omega, by show b < m; omega, ih (a + 1) (b + 1) (a + 1) (b + 1) (by omega) (by omega) (by omega) (by omega) ?_⟩
    rw [show a + 1 + (d : Int) = a + ((d + 1 : Nat) : Int) by omega, show b + 1 + (d : Int) = b + ((d + 1 : Nat) : Int) by omega]
    exact h
theorem inO_pairs (n m : Int) : ∀ (s : List S49) (a b : Int), validP n m s a b → a ≤ n → b ≤ m → inO n m (pairsL n s a b) a b
  | [], a, b, hv, ha, hb => by
    have hv' : n - a = m - b := hv
    have := inO_run (n := n) (m := m) (rest := []) (n - a).toNat a b a b (by omega) (by omega) (by omega) (by omega) trivial
    rw [List.append_nil] at this
    exact this
  | c :: t, a, b, hv, ha, hb => by
    obtain ⟨⟨h1, h2, h3, h4, h5, h6, h7, h8, h9, h10⟩, hv2⟩ := hv
    exact inO_run (c.f0 - a).toNat a b a b (by omega) (by omega) (by omega) (by omega) (inO_weaken (inO_pairs n m t _ _ hv2 (by omega) (by omega)) (by omega) (by omega))
theorem of_loop (n m : Int) (hn0 : 0 ≤ n) (hm0 : 0 ≤ m) (hn : n ≤ 4194304) (hm : m ≤ 4194304) (l : List S94) (hl : l.length ≤ 8000000) (d : Nat) : ∀ (i : Nat) (out : List S49) (a b : Int), i + d = l.length → inO n m (l.drop i) a b → 0 ≤ a → a ≤ n → 0 ≤ b → b ≤ m → out.length ≤ i →
    Ev (fun k => selvageref06_Of.l0 k l n m out a b (i : Int)) (out ++ ofS n m (l.drop i) a b, 0) := by
  have w1 : ∀ i : Nat, i ≤ 8000000 → wrap64 ((i : Int) + 1) = ((i + 1 : Nat) : Int) := fun i h => w_add i 1 (by omega)
  have wn : wrap64 (n + 1) = n + 1 := w64' (by omega) (by omega)
  have wm : wrap64 (m + 1) = m + 1 := w64' (by omega) (by omega)
  induction d with
  | zero =>
    intro i out a b hd hv ha han hb hbm ho
    rw [List.drop_of_length_le (by omega)]
    have e1 : wrap64 (n - a) = n - a := w64' (by omega) (by omega)
    have e2 : wrap64 (m - b) = m - b := w64' (by omega) (by omega)
    have last : ∀ o : List S49, Ev (fun k => selvageref06_Of.l0 k l n m o (n + 1) (m + 1) ((i + 1 : Nat) : Int)) (o, 0) := fun o =>
      Ev.step (f := fun _ => some (o, 0)) (fun k => by simp only [selvageref06_Of.l0]; rw [if_neg (by omega)]) (Ev.pure _)
    refine Ev.step (fun k => ?_) (last (out ++ gap a b n m))
    simp only [selvageref06_Of.l0, e1, e2, wn, wm, w1 i (by omega)]
    rw [if_pos (by omega), if_neg (by omega)]
    by_cases h1 : n > a
    · rw [if_pos h1, if_pos (by omega), gap_some (Or.inl h1)]
    · rw [if_neg h1]
      by_cases h2 : m > b
      · rw [if_pos h2, if_pos (by omega), gap_some (Or.inr h2)]
      · rw [if_neg h2]
        unfold gap
        rw [if_neg (by omega), List.append_nil]
  | succ d ih =>
    intro i out a b hd hv ha han hb hbm ho
    rw [drop94 l i (by omega)] at hv ⊢
    obtain ⟨h1, h2, h3, h4, hv2⟩ := hv
    generalize hp : rd_T94 l (i : Int) = p at h1 h2 h3 h4 hv2 ⊢
    have e1 : wrap64 (p.f0 - a) = p.f0 - a := w64' (by omega) (by omega)
    have e2 : wrap64 (p.f1 - b) = p.f1 - b := w64' (by omega) (by omega)
    have e3 : wrap64 (p.f0 + 1) = p.f0 + 1 := w64' (by omega) (by omega)
    have e4 : wrap64 (p.f1 + 1) = p.f1 + 1 := w64' (by omega) (by omega)
    refine Ev.step (f := fun k => selvageref06_Of.j2 k l n m out a b (i : Int) p.f0 p.f1 false) (fun k => ?_) ?_
    · simp only [selvageref06_Of.l0, hp]
      rw [if_pos (by omega), if_pos (by omega), if_pos (by omega), if_neg (by omega), if_neg (by omega), if_neg (by omega), decide_eq_false (by omega)]
    · have := ih (i + 1) (out ++ gap a b p.f0 p.f1) (p.f0 + 1) (p.f1 + 1) (by omega) hv2 (by omega) (by omega) (by omega) (by omega) (by
        rw [List.length_append]; unfold gap; split <;> simp <;> omega)
      rw [List.append_assoc] at this
      refine Ev.step (fun k => ?_) this
      simp only [selvageref06_Of.j2, e1, e2, e3, e4, w1 i (by omega)]
      rw [if_neg (by simp)]
      by_cases q1 : p.f0 > a
      · rw [if_pos q1, if_pos (by omega), gap_some (Or.inl q1)]
      · rw [if_neg q1]
        by_cases q2 : p.f1 > b
        · rw [if_pos q2, if_pos (by omega), gap_some (Or.inr q2)]
        · rw [if_neg q2]
          unfold gap
          rw [if_neg (by omega), List.append_nil]
theorem of_run (n m : Int) (rest : List S94) (d : Nat) : ∀ (a b pa pb : Int), ofS n m (runP a b (d + 1) ++ rest) pa pb = gap pa pb a b ++ ofS n m rest (a + (d : Int) + 1) (b + (d : Int) + 1) := by
  induction d with
  | zero => intro a b pa pb; rw [show a + ((0 : Nat) : Int) + 1 = a + 1 by omega, show b + ((0 : Nat) : Int) + 1 = b + 1 by omega]; rfl
  | succ d ih =>
    intro a b pa pb
    have := ih (a + 1) (b + 1) (a + 1) (b + 1)
    rw [gap_none, List.nil_append] at this
    rw [show a + ((d + 1 : Nat) : Int) + 1 = a + 1 + (d : Int) + 1 by omega, show b + ((d + 1 : Nat) : Int) + 1 = b + 1 + (d : Int) + 1 by omega, ← this]
    rfl
def nrm : List S49 → Int → Int → Int → Int → List S49
  | [], pa, pb, qa, qb => gap pa pb qa qb
  | c :: t, pa, pb, qa, qb => if qa < c.f0 then gap pa pb qa qb ++ nrm t c.f0 c.f2 (c.f0 + c.f1) (c.f2 + c.f3) else nrm t pa pb (c.f0 + c.f1) (c.f2 + c.f3)
theorem of_pairs (n m : Int) : ∀ (s : List S49) (pa pb qa qb : Int), validP n m s qa qb → qa ≤ n → ofS n m (pairsL n s qa qb) pa pb = nrm s pa pb qa qb
  | [], pa, pb, qa, qb, hv, h => by
    have hv' : n - qa = m - qb := hv
    simp only [pairsL, nrm]
    obtain ⟨d, hd⟩ : ∃ d, (n - qa).toNat = d := ⟨_, rfl⟩
    rw [hd]
    cases d with
    | zero => obtain rfl : n = qa := by omega
              obtain rfl : m = qb := by omega
              rfl
    | succ d =>
      have := of_run n m [] d qa qb pa pb
      rw [List.append_nil] at this
      rw [this, show qa + (d : Int) + 1 = n by omega, show qb + (d : Int) + 1 = m by omega]
      show _ ++ gap n m n m = _
      rw [gap_none, List.append_nil]
  | c :: t, pa, pb, qa, qb, hv, h => by
    obtain ⟨⟨h1, h2, h3, h4, h5, h6, h7, h8, h9, h10⟩, hv2⟩ := hv
    simp only [pairsL, nrm]
    by_cases q : qa < c.f0
    · obtain ⟨d, hd⟩ : ∃ d, (c.f0 - qa).toNat = d + 1 := ⟨(c.f0 - qa).toNat - 1, by omega⟩
      rw [if_pos q, hd, of_run, show qa + (d : Int) + 1 = c.f0 by omega, show qb + (d : Int) + 1 = c.f2 by omega, of_pairs n m t _ _ _ _ hv2 (by omega)]
    · rw [if_neg q, show (c.f0 - qa).toNat = 0 by omega]
      exact of_pairs n m t pa pb _ _ hv2 (by omega)
theorem of_at (l : List S94) (n m : Int) (hn0 : 0 ≤ n) (hm0 : 0 ≤ m) (hn : n ≤ 4194304) (hm : m ≤ 4194304) (hl : l.length ≤ 8000000) (hi : inO n m l 0 0) : Ev (fun k => selvageref06_Of.f k l n m) (ofS n m l 0 0, 0) := by
  refine Ev.same (G := fun k => selvageref06_Of.j0 k l n m false) (fun k => ?_) ?_
  · unfold selvageref06_Of.f
    rw [if_neg (by omega), if_neg (by omega), if_neg (by omega), decide_eq_false (by omega)]
  · refine Ev.step (f := fun k => selvageref06_Of.l0 k l n m [] 0 0 0) (fun k => by simp [selvageref06_Of.j0]) ?_
    have := of_loop n m hn0 hm0 hn hm l hl l.length 0 [] 0 0 (by omega) hi (by omega) hn0 (by omega) hm0 (by simp)
    rw [List.nil_append, List.drop_zero] at this
    exact this
theorem validS_none {s : List S49} {n m : Int} (h : validS s n m = none) : n ≤ 4194304 ∧ m ≤ 4194304 ∧ validP n m s 0 0 := by
  unfold validS at h
  split at h
  · cases h
  · rename_i hc
    refine ⟨by omega, by omega, ?_⟩
    unfold errP at h
    split at h
    · assumption
    · cases h
theorem validS_some {s : List S49} {n m : Int} {e : Int} (h : validS s n m = some e) : e ≠ 0 := by
  unfold validS errP at h
  split at h
  · cases h; decide
  · split at h
    · cases h
    · cases h; decide
noncomputable def normS (s : List S49) (n m : Int) : List S49 × Option Int := if (validS s n m).isNone = true then (nrm s 0 0 0 0, none) else ([], validS s n m)
theorem rnorm_at (s : List S49) (hs : s.length ≤ 4000000000) (n m : Int) (hn0 : 0 ≤ n) (hm0 : 0 ≤ m) : Ev (fun k => selvageref06_Normal.f k s n m) ((normS s n m).1, num (normS s n m).2) := by
  refine Ev.bind (rvalid_at s hs n m hn0 hm0) ?_
  unfold normS
  cases hv : validS s n m with
  | none =>
    obtain ⟨hn, hm, hp⟩ := validS_none hv
    refine Ev.same (G := fun k => (selvageref06_pairs.f k s n).bind fun t => (selvageref06_Of.f k t n m).bind fun bt => some (bt.1, bt.2)) (fun k => by rw [if_pos (show num none = 0 from rfl)]) ?_
    have h1 := pairs_loop s n m hn hm hs s.length 0 [] 0 0 (by omega) hp (by omega) hn0 (by omega) hm0 (by simp)
    rw [List.nil_append, List.drop_zero] at h1
    refine Ev.bind h1 ?_
    have hlen := pairsL_length n m s 0 0 hp hn0
    have h2 := of_at (pairsL n s 0 0) n m hn0 hm0 hn hm (by omega) (inO_pairs n m s 0 0 hp hn0 hm0)
    refine Ev.bind h2 ?_
    rw [of_pairs n m s 0 0 0 0 hp hn0]
    exact Ev.pure _
  | some e =>
    have he := validS_some hv
    refine Ev.same (G := fun _ => some ([], e)) (fun k => by rw [if_neg (show ¬ num (some e) = 0 from he)]; rfl) (Ev.pure _)
end Go.Proofs.YtecjoofjiockkaaGreatDoor.Pure
namespace Go.Proofs.YtecjoofjiockkaaGreatDoor.Pure
open Go.RowKit Go.Proofs.YtecjoofjiockkaaGreatDoor.Pp Go.Proofs.YtecjoofjiockkaaGreatDoor.Ext Go.Proofs.YtecjoofjiockkaaGreatDoorW.PrintWords Go.Proofs.YtecjoofjiockkaaGreatDoorW.PrintLast Go.Proofs.YtecjoofjiockkaaGreatDoorW.PrintMore
set_option linter.unusedVariables false
set_option linter.unusedSimpArgs false
theorem set_last (d : List S49) (x y : S49) : (d ++ [x]).set d.length y = d ++ [y] := by
  rw [List.set_append_right _ _ (Nat.le_refl _), Nat.sub_self]; rfl
theorem rd_last (d : List S49) (x : S49) : rd_T49 (d ++ [x]) (d.length : Int) = x := by
  unfold rd_T49
  rw [Int.toNat_natCast, List.getD_eq_getElem?_getD, List.getElem?_append_right (Nat.le_refl _), Nat.sub_self]; rfl
theorem norm_app (k : Nat) (L s : List S49) (i : Nat) (x c : S49) (hi : i < s.length) (hs : s.length ≤ 4000000000) (hL : 0 < L.length) (hL2 : L.length ≤ 4000000001) (hx : rd_T49 L ((L.length - 1 : Nat) : Int) = x) (hc : rd_T49 s (i : Int) = c) (hne : ¬ wrap64 (x.f0 + x.f1) = c.f0) :
    edits_Normal.l0 (k + 1) L s (s.length : Int) (i : Int) = edits_Normal.l0 k (L ++ [⟨c.f0, c.f1, c.f2, c.f3⟩]) s (s.length : Int) ((i + 1 : Nat) : Int) := by
  have w1 : wrap64 ((i : Int) + 1) = ((i + 1 : Nat) : Int) := w_add i 1 (by omega)
  have wl : wrap64 ((L.length : Int) - 1) = ((L.length - 1 : Nat) : Int) := by rw [w64' (by omega) (by omega)]; omega
  rw [edits_Normal.l0, if_pos (by omega), if_pos (by omega), if_pos (by omega), wl, hx, hc, w1, if_pos (by omega), if_pos (by omega), if_pos (by omega), if_neg hne, if_pos (by omega)]
theorem norm_mrg (k : Nat) (L s : List S49) (i : Nat) (x c y _z : S49) (L1 L2 : List S49) (hi : i < s.length) (hs : s.length ≤ 4000000000) (hL : 0 < L.length) (hL2 : L.length ≤ 4000000001) (hx : rd_T49 L ((L.length - 1 : Nat) : Int) = x) (hc : rd_T49 s (i : Int) = c) (he : wrap64 (x.f0 + x.f1) = c.f0)
    (h1 : L.set (L.length - 1) ⟨x.f0, wrap64 (x.f1 + c.f1), x.f2, x.f3⟩ = L1) (hy : rd_T49 L1 ((L.length - 1 : Nat) : Int) = y) (h2 : L1.set (L.length - 1) ⟨y.f0, y.f1, y.f2, wrap64 (y.f3 + c.f3)⟩ = L2) :
    edits_Normal.l0 (k + 1) L s (s.length : Int) (i : Int) = edits_Normal.l0 k L2 s (s.length : Int) ((i + 1 : Nat) : Int) := by
  have w1 : wrap64 ((i : Int) + 1) = ((i + 1 : Nat) : Int) := w_add i 1 (by omega)
  have wl : wrap64 ((L.length : Int) - 1) = ((L.length - 1 : Nat) : Int) := by rw [w64' (by omega) (by omega)]; omega
  rw [edits_Normal.l0, if_pos (by omega), if_pos (by omega), if_pos (by omega), wl, hx, hc, w1, if_pos (by omega), if_pos (by omega), if_pos (by omega), if_pos he, Int.toNat_natCast, h1, Option.bind_some, hy, h2]
theorem norm_loop (s : List S49) (n m : Int) (hn : n ≤ 4194304) (hm : m ≤ 4194304) (hs : s.length ≤ 4000000000) (d : Nat) : ∀ (i : Nat) (dn : List S49) (pa pb qa qb : Int), i + d = s.length → validP n m (s.drop i) qa qb → 0 ≤ pa → pa ≤ qa → qa ≤ n → 0 ≤ pb → pb ≤ qb → qb ≤ m → (pa < qa ∨ pb < qb) → dn.length ≤ i →
    Ev (fun k => edits_Normal.l0 k (dn ++ [⟨pa, qa - pa, pb, qb - pb⟩]) s (s.length : Int) (i : Int)) (dn ++ nrm (s.drop i) pa pb qa qb, none) := by
  induction d with
  | zero =>
    intro i dn pa pb qa qb hd hv a1 a2 a3 a4 a5 a6 a7 a8
    rw [List.drop_of_length_le (by omega)]
    refine Ev.step (f := fun _ => some (dn ++ nrm [] pa pb qa qb, none)) (fun k => ?_) (Ev.pure _)
    simp only [edits_Normal.l0, nrm]
    rw [if_neg (by omega), gap_some a7]
  | succ d ih =>
    intro i dn pa pb qa qb hd hv a1 a2 a3 a4 a5 a6 a7 a8
    rw [drop49 s i (by omega)] at hv ⊢
    obtain ⟨⟨h1, h2, h3, h4, h5, h6, h7, h8, h9, h10⟩, hv2⟩ := hv
    generalize hc : rd_T49 s (i : Int) = c at h1 h2 h3 h4 h5 h6 h7 h8 h9 h10 hv2 ⊢
    have hl : (dn ++ [(⟨pa, qa - pa, pb, qb - pb⟩ : S49)]).length = dn.length + 1 := by rw [List.length_append, List.length_singleton]
    have hx : rd_T49 (dn ++ [(⟨pa, qa - pa, pb, qb - pb⟩ : S49)]) (((dn ++ [(⟨pa, qa - pa, pb, qb - pb⟩ : S49)]).length - 1 : Nat) : Int) = ⟨pa, qa - pa, pb, qb - pb⟩ := by rw [hl, Nat.add_sub_cancel]; exact rd_last _ _
    have wq : wrap64 (pa + (qa - pa)) = qa := by rw [w64' (by omega) (by omega)]; omega
    by_cases q : qa < c.f0
    · have := ih (i + 1) (dn ++ [⟨pa, qa - pa, pb, qb - pb⟩]) c.f0 c.f2 (c.f0 + c.f1) (c.f2 + c.f3) (by omega) hv2 (by omega) (by omega) (by omega) (by omega) (by omega) (by omega) (by omega) (by omega)
      have en : dn ++ nrm (c :: s.drop (i + 1)) pa pb qa qb = (dn ++ [⟨pa, qa - pa, pb, qb - pb⟩]) ++ nrm (s.drop (i + 1)) c.f0 c.f2 (c.f0 + c.f1) (c.f2 + c.f3) := by
        simp only [nrm]; rw [if_pos q, gap_some a7, List.append_assoc]
      have ec : (⟨c.f0, c.f0 + c.f1 - c.f0, c.f2, c.f2 + c.f3 - c.f2⟩ : S49) = ⟨c.f0, c.f1, c.f2, c.f3⟩ := by rw [show c.f0 + c.f1 - c.f0 = c.f1 by omega, show c.f2 + c.f3 - c.f2 = c.f3 by omega]
      rw [en]
      rw [ec] at this
      exact Ev.step (fun k => norm_app k _ s i _ c (by omega) hs (by omega) (by omega) hx hc (by show ¬ wrap64 (pa + (qa - pa)) = c.f0; rw [wq]; omega)) this
    · have := ih (i + 1) dn pa pb (c.f0 + c.f1) (c.f2 + c.f3) (by omega) hv2 (by omega) (by omega) (by omega) (by omega) (by omega) (by omega) (by omega) (by omega)
      have en : nrm (c :: s.drop (i + 1)) pa pb qa qb = nrm (s.drop (i + 1)) pa pb (c.f0 + c.f1) (c.f2 + c.f3) := by simp only [nrm]; rw [if_neg q]
      rw [en]
      refine Ev.step (fun k => norm_mrg k _ s i _ c ⟨pa, c.f0 + c.f1 - pa, pb, qb - pb⟩ c (dn ++ [⟨pa, c.f0 + c.f1 - pa, pb, qb - pb⟩]) (dn ++ [⟨pa, c.f0 + c.f1 - pa, pb, c.f2 + c.f3 - pb⟩]) (by omega) hs (by omega) (by omega) hx hc (by show wrap64 (pa + (qa - pa)) = c.f0; rw [wq]; omega) ?_ ?_ ?_) this
      · rw [hl, Nat.add_sub_cancel, set_last]
        show dn ++ [(⟨pa, wrap64 (qa - pa + c.f1), pb, qb - pb⟩ : S49)] = _
        rw [w64' (by omega) (by omega), show qa - pa + c.f1 = c.f0 + c.f1 - pa by omega]
      · rw [hl, Nat.add_sub_cancel]; exact rd_last _ _
      · rw [hl, Nat.add_sub_cancel, set_last]
        show dn ++ [(⟨pa, c.f0 + c.f1 - pa, pb, wrap64 (qb - pb + c.f3)⟩ : S49)] = _
        rw [w64' (by omega) (by omega), show qb - pb + c.f3 = c.f2 + c.f3 - pb by omega]
theorem norm_at (s : List S49) (hs : s.length ≤ 4000000000) (n m : Int) (hn0 : 0 ≤ n) (hm0 : 0 ≤ m) : Ev (fun k => edits_Normal.f k s n m) (normS s n m) := by
  refine Ev.bind (valid_at s hs n m hn0 hm0) ?_
  unfold normS
  cases hv : validS s n m with
  | some e =>
    refine Ev.same (G := fun _ => some ([], some e)) (fun k => ?_) ?_
    · rw [if_neg (by simp)]; rfl
    · rw [if_neg (by simp)]; exact Ev.pure _
  | none =>
    obtain ⟨hn, hm, hp⟩ := validS_none hv
    rw [if_pos (show (none : Option Int).isNone = true from rfl)]
    refine Ev.same (G := fun k => edits_Normal.l0 k [] s (s.length : Int) 0) (fun k => by rw [if_pos (show (none : Option Int).isNone = true from rfl)]) ?_
    cases s with
    | nil =>
      refine Ev.step (f := fun _ => some ([], none)) (fun k => ?_) ?_
      · simp only [edits_Normal.l0]; rw [if_neg (by simp)]
      · show Ev _ (gap 0 0 0 0, none)
        rw [gap_none]; exact Ev.pure _
    | cons c t =>
      obtain ⟨⟨h1, h2, h3, h4, h5, h6, h7, h8, h9, h10⟩, hv2⟩ := hp
      have hl : (c :: t).length = t.length + 1 := rfl
      have := norm_loop (c :: t) n m hn hm hs t.length 1 [] c.f0 c.f2 (c.f0 + c.f1) (c.f2 + c.f3) (by omega) hv2 (by omega) (by omega) (by omega) (by omega) (by omega) (by omega) (by omega) (by simp)
      have ec : (⟨c.f0, c.f0 + c.f1 - c.f0, c.f2, c.f2 + c.f3 - c.f2⟩ : S49) = ⟨c.f0, c.f1, c.f2, c.f3⟩ := by rw [show c.f0 + c.f1 - c.f0 = c.f1 by omega, show c.f2 + c.f3 - c.f2 = c.f3 by omega]
      have en : nrm (c :: t) 0 0 0 0 = nrm t c.f0 c.f2 (c.f0 + c.f1) (c.f2 + c.f3) := by
        simp only [nrm]
        by_cases q : 0 < c.f0
        · rw [if_pos q, gap_none, List.nil_append]
        · rw [if_neg q, show c.f0 = 0 by omega, show c.f2 = 0 by omega]
      rw [en]
      rw [ec, List.nil_append, List.nil_append, List.drop_one, List.tail_cons] at this
      refine Ev.step (fun k => ?_) this
      have hw : wrap64 ((([] : List S49).length : Int) - 1) = -1 := by rw [w64' (by simp) (by simp)]; simp
      have hw2 : wrap64 (0 + 1) = 1 := by rw [w64' (by omega) (by omega)]; omega
      have hr : rd_T49 (c :: t) 0 = c := rfl
      simp only [edits_Normal.l0, hw, hw2, hr]
      rw [if_pos (by rw [hl]; omega), if_pos (by omega), if_pos (by rw [hl]; omega), if_neg (by omega), if_pos (by simp)]
      rfl
end Go.Proofs.YtecjoofjiockkaaGreatDoor.Pure
namespace Go.Proofs.YtecjoofjiockkaaGreatDoor.Pure
open Go.RowKit Go.Proofs.YtecjoofjiockkaaGreatDoor.Pp Go.Proofs.YtecjoofjiockkaaGreatDoor.Ext Go.Proofs.YtecjoofjiockkaaGreatDoorW.PrintWords Go.Proofs.YtecjoofjiockkaaGreatDoorW.PrintLast Go.Proofs.YtecjoofjiockkaaGreatDoorW.PrintMore
set_option linter.unusedVariables false
set_option linter.unusedSimpArgs false
theorem nrm_valid (n m : Int) : ∀ (s : List S49) (pa pb qa qb a b : Int), validP n m s qa qb → pa ≤ qa → pb ≤ qb → (pa < qa ∨ pb < qb) → a ≤ pa → b ≤ pb → pa - a = pb - b → qa ≤ n → qb ≤ m → validP n m (nrm s pa pb qa qb) a b
  | [], pa, pb, qa, qb, a, b, hv, h1, h2, h3, h4, h5, h6, h7, h8 => by
    have hv' : n - qa = m - qb := hv
    simp only [nrm]
    rw [gap_some h3]
    refine ⟨⟨?_, ?_, ?_, ?_, ?_, ?_, ?_, ?_, ?_, ?_⟩, ?_⟩
    all_goals first | (show n - (pa + (qa - pa)) = m - (pb + (qb - pb)); omega) | (simp only; omega)
  | c :: t, pa, pb, qa, qb, a, b, hv, h1, h2, h3, h4, h5, h6, h7, h8 => by
    obtain ⟨⟨q1, q2, q3, q4, q5, q6, q7, q8, q9, q10⟩, hv2⟩ := hv
    simp only [nrm]
    by_cases q : qa < c.f0
    · rw [if_pos q, gap_some h3]
      refine ⟨⟨?_, ?_, ?_, ?_, ?_, ?_, ?_, ?_, ?_, ?_⟩, ?_⟩
      all_goals first
        | (simp only; omega)
        | (show validP n m (nrm t c.f0 c.f2 (c.f0 + c.f1) (c.f2 + c.f3)) (pa + (qa - pa)) (pb + (qb - pb))
           rw [show pa + (qa - pa) = qa by omega, show pb + (qb - pb) = qb by omega]
           exact nrm_valid n m t _ _ _ _ _ _ hv2 (by omega) (by omega) (by omega) (by omega) (by omega) (by omega) (by omega) (by omega))
    · rw [if_neg q]
      exact nrm_valid n m t _ _ _ _ _ _ hv2 (by omega) (by omega) (by omega) (by omega) (by omega) (by omega) (by omega) (by omega)
theorem nrm_start (c : S49) (t : List S49) (n m : Int) (h : okC n m 0 0 c) : nrm (c :: t) 0 0 0 0 = nrm t c.f0 c.f2 (c.f0 + c.f1) (c.f2 + c.f3) := by
  obtain ⟨q1, q2, q3, q4, q5, q6, q7, q8, q9, q10⟩ := h
  simp only [nrm]
  by_cases q : 0 < c.f0
  · rw [if_pos q, gap_none, List.nil_append]
  · rw [if_neg q, show c.f0 = 0 by omega, show c.f2 = 0 by omega]
theorem nrm_valid0 (n m : Int) (s : List S49) (hv : validP n m s 0 0) : validP n m (nrm s 0 0 0 0) 0 0 := by
  cases s with
  | nil => show validP n m (gap 0 0 0 0) 0 0; rw [gap_none]; exact hv
  | cons c t =>
    obtain ⟨h, hv2⟩ := hv
    rw [nrm_start c t n m h]
    obtain ⟨q1, q2, q3, q4, q5, q6, q7, q8, q9, q10⟩ := h
    exact nrm_valid n m t _ _ _ _ _ _ hv2 (by omega) (by omega) (by omega) (by omega) (by omega) (by omega) (by omega) (by omega)
theorem gap_length (a b x y : Int) : (gap a b x y).length ≤ 1 := by unfold gap; split <;> simp
theorem nrm_length : ∀ (s : List S49) (pa pb qa qb : Int), (nrm s pa pb qa qb).length ≤ s.length + 1
  | [], pa, pb, qa, qb => gap_length _ _ _ _
  | c :: t, pa, pb, qa, qb => by
    simp only [nrm, List.length_cons]
    split
    · have := nrm_length t c.f0 c.f2 (c.f0 + c.f1) (c.f2 + c.f3)
      have := gap_length pa pb qa qb
      rw [List.length_append]; omega
    · have := nrm_length t pa pb (c.f0 + c.f1) (c.f2 + c.f3)
      omega
theorem normS_valid {s L : List S49} {n m : Int} (h : normS s n m = (L, none)) : n ≤ 4194304 ∧ m ≤ 4194304 ∧ validP n m L 0 0 ∧ L.length ≤ s.length + 1 := by
  unfold normS at h
  split at h
  · rename_i hc
    have hv : validS s n m = none := by simpa using hc
    obtain ⟨h1, h2, h3⟩ := validS_none hv
    obtain rfl : nrm s 0 0 0 0 = L := (Prod.mk.inj h).1
    exact ⟨h1, h2, nrm_valid0 n m s h3, nrm_length s 0 0 0 0⟩
  · rename_i hc
    have := (Prod.mk.inj h).2
    rw [this] at hc
    exact absurd rfl hc
theorem runL_run (a b : Int) (ha : 0 ≤ a) (hb : 0 ≤ b) (d : Nat) : ∀ i : Nat, a + (i : Int) + (d : Int) ≤ 4194304 → b + (i : Int) + (d : Int) ≤ 4194304 → runL a b i d = runP (a + (i : Int)) (b + (i : Int)) d := by
  induction d with
  | zero => intro i _ _; rfl
  | succ d ih =>
    intro i h1 h2
    have e1 : wrap64 (a + (i : Int)) = a + (i : Int) := w64' (by omega) (by omega)
    have e2 : wrap64 (b + (i : Int)) = b + (i : Int) := w64' (by omega) (by omega)
    rw [runL, runP, e1, e2, ih (i + 1) (by omega) (by omega), show a + ((i + 1 : Nat) : Int) = a + (i : Int) + 1 by omega, show b + ((i + 1 : Nat) : Int) = b + (i : Int) + 1 by omega]
theorem runL_zero (a b x : Int) (ha : 0 ≤ a) (hb : 0 ≤ b) (hx : a ≤ x) (hx2 : x ≤ 4194304) (hy : b + (x - a) ≤ 4194304) : runL a b 0 (wrap64 (x - a)).toNat = runP a b (x - a).toNat := by
  have e : wrap64 (x - a) = x - a := w64' (by omega) (by omega)
  rw [e, runL_run a b ha hb _ 0 (by omega) (by omega), show a + ((0 : Nat) : Int) = a by omega, show b + ((0 : Nat) : Int) = b by omega]
theorem stay_pairs (n m : Int) (hn : n ≤ 4194304) (hm : m ≤ 4194304) : ∀ (s : List S49) (a b : Int) (out : List S94), validP n m s a b → 0 ≤ a → 0 ≤ b → a ≤ n → b ≤ m → pairsStay n s a b out = out ++ pairsL n s a b
  | [], a, b, out, hv, ha, hb, h1, h2 => by
    have hv' : n - a = m - b := hv
    rw [pairsStay, pairsL, runL_zero a b n ha hb h1 hn (by omega)]
  | c :: t, a, b, out, hv, ha, hb, h1, h2 => by
    obtain ⟨⟨q1, q2, q3, q4, q5, q6, q7, q8, q9, q10⟩, hv2⟩ := hv
    have e1 : wrap64 (c.f0 + c.f1) = c.f0 + c.f1 := w64' (by omega) (by omega)
    have e2 : wrap64 (c.f2 + c.f3) = c.f2 + c.f3 := w64' (by omega) (by omega)
    rw [pairsStay, pairsL, e1, e2, runL_zero a b c.f0 ha hb q4 (by omega) (by omega), stay_pairs n m hn hm t _ _ _ hv2 (by omega) (by omega) (by omega) (by omega), List.append_assoc]
theorem pairs_at (L : List S49) (hL : L.length ≤ 4000000000) (n m : Int) (hn0 : 0 ≤ n) (hm0 : 0 ≤ m) (hn : n ≤ 4194304) (hm : m ≤ 4194304) (hv : validP n m L 0 0) : Ev (fun k => edits_Pairs.f k L n m) (pairsL n L 0 0, none) := by
  have h1 : validS L n m = none := by unfold validS; rw [if_neg (by omega), errP_pos hv]
  have h2 := valid_at L hL n m hn0 hm0
  rw [h1] at h2
  have h3 := pairsL_length n m L 0 0 hv hn0
  have h4 := stay_pairs n m hn hm L 0 0 [] hv (by omega) (by omega) hn0 hm0
  rw [List.nil_append] at h4
  refine Ev.same (fun k => by unfold edits_Pairs.f; rw [if_pos (by omega)]) (Ev.bind h2 (Ev.same (fun k => if_pos rfl) ?_))
  rw [h4]
  exact Ev.same (fun k => if_pos (by omega)) (Ev.pure _)
theorem rpairs_at (L : List S49) (hL : L.length ≤ 4000000000) (n m : Int) (hn0 : 0 ≤ n) (hm0 : 0 ≤ m) (hn : n ≤ 4194304) (hm : m ≤ 4194304) (hv : validP n m L 0 0) : Ev (fun k => selvageref06_Pairs.f k L n m) (pairsL n L 0 0, 0) := by
  have h1 : validS L n m = none := by unfold validS; rw [if_neg (by omega), errP_pos hv]
  have h2 := rvalid_at L hL n m hn0 hm0
  rw [h1] at h2
  have h3 := pairs_loop L n m hn hm hL L.length 0 [] 0 0 (by omega) (by rw [List.drop_zero]; exact hv) (by omega) hn0 (by omega) hm0 (by simp)
  rw [List.drop_zero, List.nil_append] at h3
  exact Ev.bind h2 (Ev.same (fun k => if_pos rfl) (Ev.bind h3 (Ev.pure _)))
end Go.Proofs.YtecjoofjiockkaaGreatDoor.Pure
namespace Go.Proofs.YtecjoofjiockkaaGreatDoor.Pure
open Go.RowKit Go.Proofs.YtecjoofjiockkaaGreatDoor.Pp Go.Proofs.YtecjoofjiockkaaGreatDoor.Ext Go.Proofs.YtecjoofjiockkaaGreatDoorW.PrintWords Go.Proofs.YtecjoofjiockkaaGreatDoorW.PrintLast Go.Proofs.YtecjoofjiockkaaGreatDoorW.PrintMore
set_option linter.unusedVariables false
set_option linter.unusedSimpArgs false
abbrev Row := S53
abbrev Hunk := S29
def isOld (r : Row) : Bool := r.f0 == 1 || r.f0 == 2
def isNew (r : Row) : Bool := r.f0 == 1 || r.f0 == 3
def cntOld (l : List Row) : Nat := l.countP isOld
def cntNew (l : List Row) : Nat := l.countP isNew
theorem kinds (r : Row) : (r.f0 = 1 ∧ isOld r = true ∧ isNew r = true) ∨ (r.f0 = 2 ∧ isOld r = true ∧ isNew r = false) ∨ (r.f0 = 3 ∧ isOld r = false ∧ isNew r = true) ∨
    ((r.f0 ≠ 1 ∧ r.f0 ≠ 2 ∧ r.f0 ≠ 3) ∧ isOld r = false ∧ isNew r = false) := by
  by_cases h1 : r.f0 = 1
  · left; simp [isOld, isNew, h1]
  · by_cases h2 : r.f0 = 2
    · right; left; simp [isOld, isNew, h2]
    · by_cases h3 : r.f0 = 3
      · right; right; left; simp [isOld, isNew, h3]
      · right; right; right; simp [isOld, isNew, h1, h2, h3]
theorem add_at (c : Int) (e : Bool) (s : ByteArray) (hs : s.size ≤ 4000000000) : hunks_side_add.f c e s = some (if e = true then (false, c, e) else (true, wrap64 (c + 1), !whole s)) := by
  unfold hunks_side_add.f
  cases e with
  | true => rfl
  | false => rw [if_neg (by simp), whole_at s hs, if_neg (by simp)]; rfl
structure Small (h : Hunk) : Prop where
  rows : h.f5.length ≤ 1048576
  texts : ∀ r ∈ h.f5, r.f1.size ≤ 1048576
  head : h.f4.size ≤ 1048576
  a : -9223372036854775808 ≤ h.f0 ∧ h.f0 ≤ 9223372036854775807
  b : -9223372036854775808 ≤ h.f2 ∧ h.f2 ≤ 9223372036854775807
theorem r_old (r : Row) : selvageref10_old.f r.f0 r.f1 = some (isOld r) := by
  unfold selvageref10_old.f isOld
  by_cases h : r.f0 = 1
  · rw [if_pos h, h]; rfl
  · rw [if_neg h, show (r.f0 == 1) = false from beq_eq_false_iff_ne.mpr h, Bool.false_or]
theorem r_new (r : Row) : selvageref10_fresh.f r.f0 r.f1 = some (isNew r) := by
  unfold selvageref10_fresh.f isNew
  by_cases h : r.f0 = 1
  · rw [if_pos h, h]; rfl
  · rw [if_neg h, show (r.f0 == 1) = false from beq_eq_false_iff_ne.mpr h, Bool.false_or]
theorem rd_row (l : List Row) (i : Nat) : rd_T53 l ((i : Nat) : Int) = l.getD i z53 := by show l.getD ((i : Int)).toNat _ = _; simp
theorem r_counts_at (l : List Row) (hl : l.length ≤ 4000000000) (d : Nat) : ∀ (i a b : Nat), i + d = l.length → a ≤ i → b ≤ i → Ev (fun k => selvageref10_Counts.l0 k l a b (i : Int)) (((a + cntOld (l.drop i) : Nat) : Int), ((b + cntNew (l.drop i) : Nat) : Int)) := by
  induction d with
  | zero =>
    intro i a b h _ _
    rw [List.drop_of_length_le (by omega)]
    exact Ev.step (f := fun _ => some ((a : Int), (b : Int))) (fun k => by rw [selvageref10_Counts.l0, if_neg (by omega)]) (Ev.pure _)
  | succ d ih =>
    intro i a b h ha hb
    have hi : i < l.length := by omega
    rw [drop_by l z53 i hi]
    obtain ⟨r, hr⟩ : ∃ r, r = l.getD i z53 := ⟨_, rfl⟩
    have wi : wrap64 ((i : Int) + 1) = ((i + 1 : Nat) : Int) := w_of (i + 1) _ (by omega) (by omega)
    have wa : wrap64 ((a : Int) + 1) = ((a + 1 : Nat) : Int) := w_of (a + 1) _ (by omega) (by omega)
    have wb : wrap64 ((b : Int) + 1) = ((b + 1 : Nat) : Int) := w_of (b + 1) _ (by omega) (by omega)
    unfold cntOld cntNew
    rw [← hr, List.countP_cons, List.countP_cons]
    have hstep : ∀ k, selvageref10_Counts.l0 (k + 1) l a b (i : Int) = selvageref10_Counts.l0 k l ((a + (if isOld r = true then 1 else 0) : Nat) : Int) ((b + (if isNew r = true then 1 else 0) : Nat) : Int) ((i + 1 : Nat) : Int) := by
      intro k
      rw [selvageref10_Counts.l0, if_pos (by omega), if_pos (by omega), rd_row, ← hr, r_old, r_new, Option.bind_some, Option.bind_some, wi, wa, wb]
      cases isOld r <;> cases isNew r <;> simp
    have h2 := ih (i + 1) (a + (if isOld r = true then 1 else 0)) (b + (if isNew r = true then 1 else 0)) (by omega) (by split <;> omega) (by split <;> omega)
    unfold cntOld cntNew at h2
    rw [show a + ((l.drop (i + 1)).countP isOld + if isOld r = true then 1 else 0) = a + (if isOld r = true then 1 else 0) + (l.drop (i + 1)).countP isOld by omega,
      show b + ((l.drop (i + 1)).countP isNew + if isNew r = true then 1 else 0) = b + (if isNew r = true then 1 else 0) + (l.drop (i + 1)).countP isNew by omega]
    exact Ev.step hstep h2
theorem r_counts (l : List Row) (hl : l.length ≤ 4000000000) : Ev (fun k => selvageref10_Counts.f k l) ((cntOld l : Int), (cntNew l : Int)) := by
  have := r_counts_at l hl l.length 0 0 0 (by omega) (by omega) (by omega)
  rw [List.drop_zero, Nat.zero_add, Nat.zero_add] at this
  exact this
end Go.Proofs.YtecjoofjiockkaaGreatDoor.Pure
namespace Go.Proofs.YtecjoofjiockkaaGreatDoor.Pure
open Go.RowKit Go.Proofs.YtecjoofjiockkaaGreatDoor.Pp Go.Proofs.YtecjoofjiockkaaGreatDoor.Ext Go.Proofs.YtecjoofjiockkaaGreatDoorW.PrintWords Go.Proofs.YtecjoofjiockkaaGreatDoorW.PrintLast Go.Proofs.YtecjoofjiockkaaGreatDoorW.PrintMore
set_option linter.unusedVariables false
set_option linter.unusedSimpArgs false
theorem mem_sum {α : Type} (f : α → Nat) : ∀ (l : List α), ∀ x ∈ l, f x ≤ (l.map f).sum
  | [], _, h => by cases h
  | y :: t, x, h => by
    rw [List.map_cons, List.sum_cons]
    rcases List.mem_cons.mp h with rfl | h
    · omega
    · have := mem_sum f t x h; omega
theorem len_sum {α : Type} (f : α → Nat) (c : Nat) (hf : ∀ x, c ≤ f x) : ∀ (l : List α), c * l.length ≤ (l.map f).sum
  | [] => by simp
  | y :: t => by
    have h1 := len_sum f c hf t
    have h2 := hf y
    rw [List.map_cons, List.sum_cons, List.length_cons, Nat.mul_add]; omega
def rowsSum (l : List Hunk) : Nat := (l.map fun h => h.f5.length).sum
def numE (e : Option Int) : Int := e.getD 0
theorem num_ev (e : Option Int) : Ev (fun _ => selvagelaw10_num.f e) (numE e) := Ev.pure _
theorem rd_hunk (l : List Hunk) (i : Nat) : rd_T29 l ((i : Nat) : Int) = l.getD i z29 := by show l.getD ((i : Int)).toNat _ = _; simp
theorem rd_mem (l : List Hunk) (i : Nat) (hi : i < l.length) : l.getD i z29 ∈ l := by
  rw [List.getD_eq_getElem?_getD, List.getElem?_eq_getElem hi]; exact List.getElem_mem hi
structure Hs (l : List Hunk) : Prop where
  all : ∀ h ∈ l, Small h
  count : l.length ≤ 1048576
  rows : rowsSum l ≤ 1048576
theorem same_loop (h : Hunk) (hr : h.f5.length ≤ 4000000000) (d : Nat) : ∀ j : Nat, j + d = h.f5.length →
    Ev (fun k => selvagelaw10_same.l0 k (j : Int) h.f0 h.f1 h.f2 h.f3 h.f4 h.f5 h.f0 h.f1 h.f2 h.f3 h.f4 h.f5) true := by
  induction d with
  | zero =>
    intro j hj
    exact Ev.step (f := fun _ => some true) (fun k => by rw [selvagelaw10_same.l0, if_neg (by omega)]) (Ev.pure _)
  | succ d ih =>
    intro j hj
    have w1 : wrap64 ((j : Int) + 1) = ((j + 1 : Nat) : Int) := w_add j 1 (by omega)
    refine Ev.step (fun k => ?_) (ih (j + 1) (by omega))
    rw [selvagelaw10_same.l0, w1, if_pos (by omega), if_pos (by omega), if_pos (by omega), if_neg (by simp)]
theorem same_at (h : Hunk) (hr : h.f5.length ≤ 4000000000) : Ev (fun k => selvagelaw10_same.f k h.f0 h.f1 h.f2 h.f3 h.f4 h.f5 h.f0 h.f1 h.f2 h.f3 h.f4 h.f5) true := by
  unfold selvagelaw10_same.f
  refine Ev.same (fun k => by rw [if_pos rfl, if_pos rfl, if_pos rfl, if_pos rfl, if_pos rfl, bne_self_eq_false]) ?_
  exact Ev.step (fun k => by rw [selvagelaw10_same.j0, if_neg (by simp)]; rfl) (same_loop h hr _ 0 (Nat.zero_add _))
theorem sameAll_loop (l : List Hunk) (hl : l.length ≤ 4000000000) (hs : ∀ h ∈ l, h.f5.length ≤ 4000000000) (d : Nat) : ∀ i : Nat, i + d = l.length → Ev (fun k => selvagelaw10_sameAll.l0 k l l (i : Int)) true := by
  induction d with
  | zero =>
    intro i h
    exact Ev.step (f := fun _ => some true) (fun k => by rw [selvagelaw10_sameAll.l0, if_neg (by omega)]) (Ev.pure _)
  | succ d ih =>
    intro i h
    have hi : i < l.length := by omega
    have w1 : wrap64 ((i : Int) + 1) = ((i + 1 : Nat) : Int) := w_add i 1 (by omega)
    refine Ev.step (fun k => by rw [selvagelaw10_sameAll.l0, w1, if_pos (by omega), if_pos (by omega), if_pos (by omega), rd_hunk]) (Ev.bind (same_at _ (hs _ (rd_mem l i hi))) (Ev.same (fun k => if_pos rfl) (ih (i + 1) (by omega))))
theorem sameAll_at (l : List Hunk) (hl : l.length ≤ 4000000000) (hs : ∀ h ∈ l, h.f5.length ≤ 4000000000) : Ev (fun k => selvagelaw10_sameAll.f k l l) true :=
  Ev.same (fun k => by unfold selvagelaw10_sameAll.f; rw [if_pos rfl]; rfl) (sameAll_loop l hl hs l.length 0 (by omega))
theorem works_60 : selvagelaw10_works.f 60 = some true := by decide +kernel
theorem ev_works : Ev (fun k => selvagelaw10_works.f k) true := Ev.of (fun k => selvagelaw10_works.mono k) works_60
end Go.Proofs.YtecjoofjiockkaaGreatDoor.Pure
namespace Go.Proofs.YtecjoofjiockkaaGreatDoor.Pure
open Go.RowKit Go.Proofs.YtecjoofjiockkaaGreatDoor.Pp Go.Proofs.YtecjoofjiockkaaGreatDoor.Ext Go.Proofs.YtecjoofjiockkaaGreatDoorW.PrintWords Go.Proofs.YtecjoofjiockkaaGreatDoorW.PrintLast Go.Proofs.YtecjoofjiockkaaGreatDoorW.PrintMore
set_option linter.unusedVariables false
set_option linter.unusedSimpArgs false
abbrev Chg := S49
def putL (o : Int) (T : List ByteArray) : List Row := T.map fun t => ⟨o, t⟩
abbrev cut (T : List ByteArray) (a b : Int) : List ByteArray := (T.take b.toNat).drop a.toNat
theorem cut_length (T : List ByteArray) (a b : Int) (ha : 0 ≤ a) (hab : a ≤ b) (hb : b ≤ (T.length : Int)) : ((cut T a b).length : Int) = b - a := by
  unfold cut
  rw [List.length_drop, List.length_take]
  omega
theorem putL_length (o : Int) (T : List ByteArray) : (putL o T).length = T.length := List.length_map _
def rowsG (A B : List ByteArray) : Int → List Chg → Int → List Row
  | a, [], e => putL 1 (cut A a e)
  | a, c :: t, e => putL 1 (cut A a c.f0) ++ (putL 2 (cut A c.f0 (c.f0 + c.f1)) ++ (putL 3 (cut B c.f2 (c.f2 + c.f3)) ++ rowsG A B (c.f0 + c.f1) t e))
def okG (n m e : Int) : List Chg → Int → Int → Prop
  | [], a, b => a ≤ e ∧ e ≤ n ∧ b ≤ m
  | c :: t, a, b => (a ≤ c.f0 ∧ 0 ≤ c.f1 ∧ c.f0 + c.f1 ≤ n ∧ b ≤ c.f2 ∧ 0 ≤ c.f3 ∧ c.f2 + c.f3 ≤ m) ∧ okG n m e t (c.f0 + c.f1) (c.f2 + c.f3)
def dM : List Chg → Int
  | [] => 0
  | c :: t => (c.f3 - c.f1) + dM t
theorem p_put_at (o : Int) (T : List ByteArray) (hT : T.length ≤ 5000000) (d : Nat) : ∀ (i : Nat) (x : List Row), i + d = T.length → x.length + d ≤ 20000000 → Ev (fun k => hunks_rows.l0 k x o T (T.length : Int) (i : Int)) (x ++ putL o (T.drop i)) := by
  induction d with
  | zero =>
    intro i x h _
    rw [List.drop_of_length_le (by omega)]
    exact Ev.step (f := fun _ => some x) (fun k => by rw [hunks_rows.l0, if_neg (by omega)]) (by unfold putL; rw [List.map_nil, List.append_nil]; exact Ev.pure _)
  | succ d ih =>
    intro i x h hx
    have w1 : wrap64 ((i : Int) + 1) = ((i + 1 : Nat) : Int) := w_add i 1 (by omega)
    have hi : i < T.length := by omega
    have h2 := ih (i + 1) (x ++ [⟨o, T.getD i ByteArray.empty⟩]) (by omega) (by simp; omega)
    have e : x ++ putL o (T.drop i) = (x ++ [⟨o, T.getD i ByteArray.empty⟩]) ++ putL o (T.drop (i + 1)) := by
      rw [drop_by T ByteArray.empty i hi]; unfold putL; simp
    rw [e]
    exact Ev.step (fun k => by rw [hunks_rows.l0, if_pos (by omega), if_pos (by omega), if_pos (by omega), if_pos (by omega), rd_nat, w1]) h2
theorem p_put (o : Int) (T : List ByteArray) (hT : T.length ≤ 5000000) (x : List Row) (hx : x.length + T.length ≤ 20000000) : Ev (fun k => hunks_rows.f k x o T) (x ++ putL o T) := by
  have := p_put_at o T hT T.length 0 x (by omega) hx
  rw [List.drop_zero] at this
  exact this
theorem r_put_at (o : Int) (T : List ByteArray) (hT : T.length ≤ 5000000) (d : Nat) : ∀ (i : Nat) (x : List Row), i + d = T.length → x.length + d ≤ 20000000 → Ev (fun k => selvageref10_put.l0 k x o T (i : Int)) (x ++ putL o (T.drop i)) := by
  induction d with
  | zero =>
    intro i x h _
    rw [List.drop_of_length_le (by omega)]
    exact Ev.step (f := fun _ => some x) (fun k => by rw [selvageref10_put.l0, if_neg (by omega)]) (by unfold putL; rw [List.map_nil, List.append_nil]; exact Ev.pure _)
  | succ d ih =>
    intro i x h hx
    have w1 : wrap64 ((i : Int) + 1) = ((i + 1 : Nat) : Int) := w_add i 1 (by omega)
    have hi : i < T.length := by omega
    have h2 := ih (i + 1) (x ++ [⟨o, T.getD i ByteArray.empty⟩]) (by omega) (by simp; omega)
    have e : x ++ putL o (T.drop i) = (x ++ [⟨o, T.getD i ByteArray.empty⟩]) ++ putL o (T.drop (i + 1)) := by
      rw [drop_by T ByteArray.empty i hi]; unfold putL; simp
    rw [e]
    exact Ev.step (fun k => by rw [selvageref10_put.l0, if_pos (by omega), if_pos (by omega), if_pos (by omega), rd_nat, w1]) h2
theorem r_put (o : Int) (T : List ByteArray) (hT : T.length ≤ 5000000) (x : List Row) (hx : x.length + T.length ≤ 20000000) : Ev (fun k => selvageref10_put.f k x o T) (x ++ putL o T) := by
  have := r_put_at o T hT T.length 0 x (by omega) hx
  rw [List.drop_zero] at this
  exact this
theorem cnt_put (o : Int) (T : List ByteArray) : cntOld (putL o T) = (if o = 1 ∨ o = 2 then T.length else 0) ∧ cntNew (putL o T) = (if o = 1 ∨ o = 3 then T.length else 0) := by
  unfold cntOld cntNew putL
  induction T with
  | nil => simp
  | cons t T ih =>
    obtain ⟨i1, i2⟩ := ih
    rw [List.map_cons, List.countP_cons, List.countP_cons, i1, i2]
    unfold isOld isNew
    constructor
    · by_cases h : o = 1 ∨ o = 2
      · rw [if_pos h, if_pos h, if_pos (by simpa using h)]; rfl
      · rw [if_neg h, if_neg h, if_neg (by simpa using h)]
    · by_cases h : o = 1 ∨ o = 3
      · rw [if_pos h, if_pos h, if_pos (by simpa using h)]; rfl
      · rw [if_neg h, if_neg h, if_neg (by simpa using h)]
theorem old1 (T : List ByteArray) : cntOld (putL 1 T) = T.length := by rw [(cnt_put 1 T).1, if_pos (by simp)]
theorem old2 (T : List ByteArray) : cntOld (putL 2 T) = T.length := by rw [(cnt_put 2 T).1, if_pos (by simp)]
theorem old3 (T : List ByteArray) : cntOld (putL 3 T) = 0 := by rw [(cnt_put 3 T).1, if_neg (by decide)]
theorem new1 (T : List ByteArray) : cntNew (putL 1 T) = T.length := by rw [(cnt_put 1 T).2, if_pos (by simp)]
theorem new2 (T : List ByteArray) : cntNew (putL 2 T) = 0 := by rw [(cnt_put 2 T).2, if_neg (by decide)]
theorem new3 (T : List ByteArray) : cntNew (putL 3 T) = T.length := by rw [(cnt_put 3 T).2, if_pos (by simp)]
theorem cntOld_app (x y : List Row) : cntOld (x ++ y) = cntOld x + cntOld y := List.countP_append
theorem cntNew_app (x y : List Row) : cntNew (x ++ y) = cntNew x + cntNew y := List.countP_append
theorem rows_cnt (A B : List ByteArray) (e : Int) : ∀ (G : List Chg) (a b : Int), okG (A.length : Int) (B.length : Int) e G a b → 0 ≤ a → 0 ≤ b →
    (cntOld (rowsG A B a G e) : Int) = e - a ∧ (cntNew (rowsG A B a G e) : Int) = dM G + (e - a)
  | [], a, b, h, ha, hb => by
    obtain ⟨h1, h2, h3⟩ := h
    have hl := cut_length A a e ha h1 h2
    rw [rowsG, old1, new1, dM]
    omega
  | c :: t, a, b, h, ha, hb => by
    obtain ⟨⟨q1, q2, q3, q4, q5, q6⟩, h2⟩ := h
    have hl1 := cut_length A a c.f0 ha q1 (by omega)
    have hl2 := cut_length A c.f0 (c.f0 + c.f1) (by omega) (by omega) q3
    have hl3 := cut_length B c.f2 (c.f2 + c.f3) (by omega) (by omega) q6
    obtain ⟨i1, i2⟩ := rows_cnt A B e t _ _ h2 (by omega) (by omega)
    rw [rowsG, cntOld_app, cntOld_app, cntOld_app, cntNew_app, cntNew_app, cntNew_app, old1, old2, old3, new1, new2, new3, dM]
    omega
theorem rows_length (A B : List ByteArray) (e : Int) : ∀ (G : List Chg) (a b : Int), okG (A.length : Int) (B.length : Int) e G a b → 0 ≤ a → 0 ≤ b →
    ((rowsG A B a G e).length : Int) ≤ (e - a) + ((B.length : Int) - b)
  | [], a, b, h, ha, hb => by
    obtain ⟨h1, h2, h3⟩ := h
    have hl := cut_length A a e ha h1 h2
    rw [rowsG, putL_length]
    omega
  | c :: t, a, b, h, ha, hb => by
    obtain ⟨⟨q1, q2, q3, q4, q5, q6⟩, h2⟩ := h
    have hl1 := cut_length A a c.f0 ha q1 (by omega)
    have hl2 := cut_length A c.f0 (c.f0 + c.f1) (by omega) (by omega) q3
    have hl3 := cut_length B c.f2 (c.f2 + c.f3) (by omega) (by omega) q6
    have i1 := rows_length A B e t _ _ h2 (by omega) (by omega)
    rw [rowsG, List.length_append, List.length_append, List.length_append, putL_length, putL_length, putL_length]
    omega
end Go.Proofs.YtecjoofjiockkaaGreatDoor.Pure
namespace Go.Proofs.YtecjoofjiockkaaGreatDoor.Pure
open Go.RowKit Go.Proofs.YtecjoofjiockkaaGreatDoor.Pp Go.Proofs.YtecjoofjiockkaaGreatDoor.Ext Go.Proofs.YtecjoofjiockkaaGreatDoorW.PrintWords Go.Proofs.YtecjoofjiockkaaGreatDoorW.PrintLast Go.Proofs.YtecjoofjiockkaaGreatDoorW.PrintMore
set_option linter.unusedVariables false
set_option linter.unusedSimpArgs false
abbrev HunkT := Int × Int × Int × Int × ByteArray × List Row
def hunkR (st e s2 M : Int) (hd : ByteArray) (R : List Row) : HunkT := ((if e - st > 0 then st + 1 else st), e - st, (if M > 0 then s2 + 1 else s2), M, hd, R)
theorem len_cut (T : List ByteArray) (hT : T.length ≤ 4194304) (a b : Int) : (cut T a b).length ≤ 5000000 := by
  unfold cut; rw [List.length_drop, List.length_take]; omega
theorem len_cut_int (T : List ByteArray) (a b : Int) (ha : 0 ≤ a) (hab : a ≤ b) (hb : b ≤ (T.length : Int)) (x : List Row) (o : Int) : ((x ++ putL o (cut T a b)).length : Int) = (x.length : Int) + (b - a) := by
  rw [List.length_append, putL_length]; have := cut_length T a b ha hab hb; omega
theorem p_last (A : List ByteArray) (hA : A.length ≤ 4194304) (st e a s2 M : Int) (hst : 0 ≤ st ∧ st ≤ e) (hs2 : -1000000000 ≤ s2 ∧ s2 ≤ 1000000000) (hM : -5000000 ≤ M ∧ M ≤ 5000000) (he : e ≤ (A.length : Int)) :
    wrap64 (e - st) = e - st ∧ wrap64 (M + (e - st)) = M + (e - st) ∧ wrap64 (st + 1) = st + 1 ∧ wrap64 (s2 + 1) = s2 + 1 :=
  ⟨w64' (by omega) (by omega), w64' (by omega) (by omega), w64' (by omega) (by omega), w64' (by omega) (by omega)⟩
theorem p_hunk_at (A B : List ByteArray) (hA : A.length ≤ 4194304) (hB : B.length ≤ 4194304) (st e : Int) (hst : 0 ≤ st ∧ st ≤ e) (G : List Chg) (hG : G.length ≤ 4000000000) (s2 : Int) (hs2 : -1000000000 ≤ s2 ∧ s2 ≤ 1000000000) (x1 : Int) (hd : ByteArray) (d : Nat) :
    ∀ (i : Nat) (a b M : Int) (x : List Row), i + d = G.length → okG (A.length : Int) (B.length : Int) e (G.drop i) a b → 0 ≤ a → 0 ≤ b → (-a ≤ M ∧ M ≤ b) → (x.length : Int) ≤ a + b →
    Ev (fun k => hunks_builder_hunk.l0 k st e a G (G.length : Int) (i : Int) A B st x1 s2 M hd x) (hunkR st e s2 (M + dM (G.drop i) + (e - st)) hd (x ++ rowsG A B a (G.drop i) e)) := by
  induction d with
  | zero =>
    intro i a b M x h hok ha hb hM hx
    rw [List.drop_of_length_le (by omega)] at hok ⊢
    obtain ⟨h1, h2, h3⟩ := hok
    obtain ⟨w1, w2, w3, w4⟩ := p_last A hA st e a s2 M hst hs2 (by omega) h2
    have hl := len_cut A hA a e
    have c1 : ¬ (i : Int) < (G.length : Int) := by omega
    refine Ev.step (fun k => by rw [hunks_builder_hunk.l0, if_neg c1, if_pos ha, if_pos h1, if_pos h2]) (Ev.bind (p_put 1 (cut A a e) hl x (by omega)) ?_)
    rw [rowsG, dM, show M + 0 + (e - st) = M + (e - st) by omega]
    refine Ev.same (fun k => ?_) (Ev.pure _)
    rw [w1, w2, w3, w4]
    unfold hunkR
    by_cases c2 : e - st > 0
    · by_cases c3 : M + (e - st) > 0
      · simp only [if_pos c2, if_pos c3]
      · simp only [if_pos c2, if_neg c3]
    · by_cases c3 : M + (e - st) > 0
      · simp only [if_neg c2, if_pos c3]
      · simp only [if_neg c2, if_neg c3]
  | succ d ih =>
    intro i a b M x h hok ha hb hM hx
    have hi : i < G.length := by omega
    obtain ⟨c, hc⟩ : ∃ c, c = rd_T49 G (i : Int) := ⟨_, rfl⟩
    have hdr : G.drop i = c :: G.drop (i + 1) := by rw [hc]; exact drop49 G i hi
    rw [hdr] at hok ⊢
    obtain ⟨⟨q1, q2, q3, q4, q5, q6⟩, h2⟩ := hok
    have c1 : (i : Int) < (G.length : Int) := by omega
    have c0 : 0 ≤ (i : Int) := by omega
    have w1 : wrap64 ((i : Int) + 1) = ((i + 1 : Nat) : Int) := w_add i 1 (by omega)
    have w2 : wrap64 (c.f0 + c.f1) = c.f0 + c.f1 := w64' (by omega) (by omega)
    have w3 : wrap64 (c.f2 + c.f3) = c.f2 + c.f3 := w64' (by omega) (by omega)
    have w4 : wrap64 (c.f3 - c.f1) = c.f3 - c.f1 := w64' (by omega) (by omega)
    have w5 : wrap64 (M + (c.f3 - c.f1)) = M + (c.f3 - c.f1) := w64' (by omega) (by omega)
    have k1 := len_cut_int A a c.f0 ha q1 (by omega) x 1
    have k2 := len_cut_int A c.f0 (c.f0 + c.f1) (by omega) (by omega) q3 (x ++ putL 1 (cut A a c.f0)) 2
    have k3 := len_cut_int B c.f2 (c.f2 + c.f3) (by omega) (by omega) q6 ((x ++ putL 1 (cut A a c.f0)) ++ putL 2 (cut A c.f0 (c.f0 + c.f1))) 3
    have l1 := len_cut A hA a c.f0
    have l2 := len_cut A hA c.f0 (c.f0 + c.f1)
    have l3 := len_cut B hB c.f2 (c.f2 + c.f3)
    have h9 := ih (i + 1) (c.f0 + c.f1) (c.f2 + c.f3) (M + (c.f3 - c.f1)) (((x ++ putL 1 (cut A a c.f0)) ++ putL 2 (cut A c.f0 (c.f0 + c.f1))) ++ putL 3 (cut B c.f2 (c.f2 + c.f3))) (by omega) h2 (by omega) (by omega) (by omega) (by omega)
    have e9 : hunkR st e s2 (M + dM (c :: G.drop (i + 1)) + (e - st)) hd (x ++ rowsG A B a (c :: G.drop (i + 1)) e) = hunkR st e s2 (M + (c.f3 - c.f1) + dM (G.drop (i + 1)) + (e - st)) hd ((((x ++ putL 1 (cut A a c.f0)) ++ putL 2 (cut A c.f0 (c.f0 + c.f1))) ++ putL 3 (cut B c.f2 (c.f2 + c.f3))) ++ rowsG A B (c.f0 + c.f1) (G.drop (i + 1)) e) := by
      rw [dM, rowsG, List.append_assoc, List.append_assoc, List.append_assoc, show M + (c.f3 - c.f1 + dM (G.drop (i + 1))) + (e - st) = M + (c.f3 - c.f1) + dM (G.drop (i + 1)) + (e - st) by omega]
    rw [e9]
    have b1 : c.f0 ≤ (A.length : Int) := by omega
    have b2 : 0 ≤ c.f0 := by omega
    have b3 : c.f0 ≤ c.f0 + c.f1 := by omega
    have b4 : 0 ≤ c.f2 := by omega
    have b5 : c.f2 ≤ c.f2 + c.f3 := by omega
    refine Ev.step (fun k => by rw [hunks_builder_hunk.l0, if_pos c1, if_pos c0, if_pos c1, ← hc, if_pos ha, if_pos q1, if_pos b1, w1, w2, w3, w4, w5]) (Ev.bind (p_put 1 (cut A a c.f0) l1 x (by omega)) ?_)
    refine Ev.same (fun k => by rw [if_pos b2, if_pos b3, if_pos q3]) (Ev.bind (p_put 2 (cut A c.f0 (c.f0 + c.f1)) l2 _ (by omega)) ?_)
    exact Ev.same (fun k => by rw [if_pos b4, if_pos b5, if_pos q6]) (Ev.bind (p_put 3 (cut B c.f2 (c.f2 + c.f3)) l3 _ (by omega)) h9)
end Go.Proofs.YtecjoofjiockkaaGreatDoor.Pure
namespace Go.Proofs.YtecjoofjiockkaaGreatDoor.Pure
open Go.RowKit Go.Proofs.YtecjoofjiockkaaGreatDoor.Pp Go.Proofs.YtecjoofjiockkaaGreatDoor.Ext Go.Proofs.YtecjoofjiockkaaGreatDoorW.PrintWords Go.Proofs.YtecjoofjiockkaaGreatDoorW.PrintLast Go.Proofs.YtecjoofjiockkaaGreatDoorW.PrintMore
set_option linter.unusedVariables false
set_option linter.unusedSimpArgs false
theorem stated_at (a n : Int) (ha : -5000000000 ≤ a ∧ a ≤ 5000000000) : selvageref10_stated.f a n = some (if n > 0 then a + 1 else a) := by
  unfold selvageref10_stated.f
  have w : wrap64 (a + 1) = a + 1 := w64' (by omega) (by omega)
  by_cases h : n > 0
  · rw [if_pos h, if_pos h, w]
  · rw [if_neg h, if_neg h]
def oneR (st ns : Int) (R : List Row) : HunkT := ((if (cntOld R : Int) > 0 then st + 1 else st), (cntOld R : Int), (if (cntNew R : Int) > 0 then ns + 1 else ns), (cntNew R : Int), (⟨#[]⟩ : ByteArray), R)
theorem r_one_at (A B : List ByteArray) (hA : A.length ≤ 4194304) (hB : B.length ≤ 4194304) (st e ns : Int) (hst : 0 ≤ st ∧ st ≤ e) (G : List Chg) (hG : G.length ≤ 4000000000) (hG0 : 0 < G.length) (hns : wrap64 ((rd_T49 G 0).f2 - wrap64 ((rd_T49 G 0).f0 - st)) = ns) (hn2 : -1000000000 ≤ ns ∧ ns ≤ 1000000000) (d : Nat) :
    ∀ (i : Nat) (a b : Int) (x : List Row), i + d = G.length → okG (A.length : Int) (B.length : Int) e (G.drop i) a b → 0 ≤ a → 0 ≤ b → (x.length : Int) ≤ a + b →
    Ev (fun k => selvageref10_one.l0 k G A B st e x a (i : Int)) (oneR st ns (x ++ rowsG A B a (G.drop i) e)) := by
  induction d with
  | zero =>
    intro i a b x h hok ha hb hx
    rw [List.drop_of_length_le (by omega)] at hok ⊢
    obtain ⟨h1, h2, h3⟩ := hok
    have hl := len_cut A hA a e
    have c1 : ¬ (i : Int) < (G.length : Int) := by omega
    have c2 : (0 : Int) < (G.length : Int) := by omega
    have k1 := len_cut_int A a e ha h1 h2 x 1
    have hx4 : (x ++ putL 1 (cut A a e)).length ≤ 4000000000 := by omega
    refine Ev.step (fun k => by rw [selvageref10_one.l0, if_neg c1, if_pos ha, if_pos h1, if_pos h2]) (Ev.bind (r_put 1 (cut A a e) hl x (by omega)) (Ev.bind (r_counts _ hx4) ?_))
    rw [rowsG]
    refine Ev.same (fun k => ?_) (Ev.pure _)
    rw [if_pos c2, hns, stated_at _ _ (by omega), Option.bind_some, stated_at _ _ (by omega), Option.bind_some]
    rfl
  | succ d ih =>
    intro i a b x h hok ha hb hx
    have hi : i < G.length := by omega
    obtain ⟨c, hc⟩ : ∃ c, c = rd_T49 G (i : Int) := ⟨_, rfl⟩
    have hdr : G.drop i = c :: G.drop (i + 1) := by rw [hc]; exact drop49 G i hi
    rw [hdr] at hok ⊢
    obtain ⟨⟨q1, q2, q3, q4, q5, q6⟩, h2⟩ := hok
    have c1 : (i : Int) < (G.length : Int) := by omega
    have c0 : 0 ≤ (i : Int) := by omega
    have w1 : wrap64 ((i : Int) + 1) = ((i + 1 : Nat) : Int) := w_add i 1 (by omega)
    have w2 : wrap64 (c.f0 + c.f1) = c.f0 + c.f1 := w64' (by omega) (by omega)
    have w3 : wrap64 (c.f2 + c.f3) = c.f2 + c.f3 := w64' (by omega) (by omega)
    have k1 := len_cut_int A a c.f0 ha q1 (by omega) x 1
    have k2 := len_cut_int A c.f0 (c.f0 + c.f1) (by omega) (by omega) q3 (x ++ putL 1 (cut A a c.f0)) 2
    have k3 := len_cut_int B c.f2 (c.f2 + c.f3) (by omega) (by omega) q6 ((x ++ putL 1 (cut A a c.f0)) ++ putL 2 (cut A c.f0 (c.f0 + c.f1))) 3
    have l1 := len_cut A hA a c.f0
    have l2 := len_cut A hA c.f0 (c.f0 + c.f1)
    have l3 := len_cut B hB c.f2 (c.f2 + c.f3)
    have h9 := ih (i + 1) (c.f0 + c.f1) (c.f2 + c.f3) (((x ++ putL 1 (cut A a c.f0)) ++ putL 2 (cut A c.f0 (c.f0 + c.f1))) ++ putL 3 (cut B c.f2 (c.f2 + c.f3))) (by omega) h2 (by omega) (by omega) (by omega)
    have e9 : oneR st ns (x ++ rowsG A B a (c :: G.drop (i + 1)) e) = oneR st ns ((((x ++ putL 1 (cut A a c.f0)) ++ putL 2 (cut A c.f0 (c.f0 + c.f1))) ++ putL 3 (cut B c.f2 (c.f2 + c.f3))) ++ rowsG A B (c.f0 + c.f1) (G.drop (i + 1)) e) := by
      rw [rowsG, List.append_assoc, List.append_assoc, List.append_assoc]
    rw [e9]
    have b1 : c.f0 ≤ (A.length : Int) := by omega
    have b2 : 0 ≤ c.f0 := by omega
    have b3 : c.f0 ≤ c.f0 + c.f1 := by omega
    have b4 : 0 ≤ c.f2 := by omega
    have b5 : c.f2 ≤ c.f2 + c.f3 := by omega
    refine Ev.step (fun k => by rw [selvageref10_one.l0, if_pos c1, if_pos c0, ← hc, if_pos ha, if_pos q1, if_pos b1, w1, w2, w3]) (Ev.bind (r_put 1 (cut A a c.f0) l1 x (by omega)) ?_)
    refine Ev.same (fun k => by rw [if_pos b2, if_pos b3, if_pos q3]) (Ev.bind (r_put 2 (cut A c.f0 (c.f0 + c.f1)) l2 _ (by omega)) ?_)
    exact Ev.same (fun k => by rw [if_pos b4, if_pos b5, if_pos q6]) (Ev.bind (r_put 3 (cut B c.f2 (c.f2 + c.f3)) l3 _ (by omega)) h9)
def lastE : List Chg → Int → Int
  | [], z => z
  | c :: t, _ => lastE t (c.f0 + c.f1)
theorem lastE_rd : ∀ (G : List Chg) (z : Int), 0 < G.length → lastE G z = (rd_T49 G ((G.length - 1 : Nat) : Int)).f0 + (rd_T49 G ((G.length - 1 : Nat) : Int)).f1
  | [], z, h => absurd h (by simp)
  | [c], z, h => rfl
  | c :: c' :: t, z, h => by
    have := lastE_rd (c' :: t) (c.f0 + c.f1) (by simp)
    rw [lastE, this]
    show _ = ((c :: c' :: t).getD (((c :: c' :: t).length - 1 : Nat) : Int).toNat _).f0 + ((c :: c' :: t).getD (((c :: c' :: t).length - 1 : Nat) : Int).toNat _).f1
    show ((c' :: t).getD (((c' :: t).length - 1 : Nat) : Int).toNat _).f0 + ((c' :: t).getD (((c' :: t).length - 1 : Nat) : Int).toNat _).f1 = _
    rw [Int.toNat_natCast, Int.toNat_natCast, show (c :: c' :: t).length - 1 = ((c' :: t).length - 1) + 1 by simp, List.getD_cons_succ]
def okV (n m : Int) : List Chg → Int → Int → Prop
  | [], a, b => a ≤ n ∧ b ≤ m
  | c :: t, a, b => okC n m a b c ∧ okV n m t (c.f0 + c.f1) (c.f2 + c.f3)
theorem okV_of (n m : Int) : ∀ (s : List Chg) (a b : Int), validP n m s a b → a ≤ n → b ≤ m → okV n m s a b
  | [], a, b, h, h1, h2 => ⟨h1, h2⟩
  | c :: t, a, b, h, h1, h2 => by
    obtain ⟨hc, ht⟩ := h
    refine ⟨hc, okV_of n m t _ _ ht ?_ ?_⟩ <;> (obtain ⟨q1, q2, q3, q4, q5, q6, q7, q8, q9, q10⟩ := hc; omega)
theorem okV_take (n m : Int) : ∀ (s : List Chg) (j : Nat) (a b : Int), okV n m s a b → a ≤ n → b ≤ m → okV n m (s.take j) a b
  | [], j, a, b, h, h1, h2 => by rw [List.take_nil]; exact h
  | c :: t, 0, a, b, h, h1, h2 => ⟨h1, h2⟩
  | c :: t, j + 1, a, b, h, h1, h2 => by
    obtain ⟨hc, ht⟩ := h
    rw [List.take_succ_cons]
    refine ⟨hc, okV_take n m t j _ _ ht ?_ ?_⟩ <;> (obtain ⟨q1, q2, q3, q4, q5, q6, q7, q8, q9, q10⟩ := hc; omega)
theorem okV_drop (n m : Int) : ∀ (s : List Chg) (i : Nat) (a b : Int), okV n m s a b → 0 ≤ a → 0 ≤ b → ∃ a' b', 0 ≤ a' ∧ 0 ≤ b' ∧ okV n m (s.drop i) a' b'
  | s, 0, a, b, h, h1, h2 => ⟨a, b, h1, h2, h⟩
  | [], i + 1, a, b, h, h1, h2 => ⟨a, b, h1, h2, h⟩
  | c :: t, i + 1, a, b, h, h1, h2 => by
    obtain ⟨hc, ht⟩ := h
    rw [List.drop_succ_cons]
    obtain ⟨q1, q2, q3, q4, q5, q6, q7, q8, q9, q10⟩ := hc
    exact okV_drop n m t i _ _ ht (by omega) (by omega)
theorem okV_okG (n m e : Int) (he : e ≤ n) : ∀ (t : List Chg) (a b a0 b0 : Int), okV n m t a b → a0 ≤ a → b0 ≤ b → lastE t a0 ≤ e → (t = [] → a0 ≤ e) → okG n m e t a0 b0
  | [], a, b, a0, b0, h, h1, h2, h3, h4 => by
    obtain ⟨p1, p2⟩ := h
    exact ⟨h3, he, by omega⟩
  | c :: t, a, b, a0, b0, h, h1, h2, h3, h4 => by
    obtain ⟨⟨q1, q2, q3, q4, q5, q6, q7, q8, q9, q10⟩, ht⟩ := h
    refine ⟨⟨by omega, q1, by omega, by omega, q2, by omega⟩, okV_okG n m e he t _ _ _ _ ht (Int.le_refl _) (Int.le_refl _) h3 (fun hn => ?_)⟩
    subst hn
    exact h3
theorem lastE_le (n m : Int) : ∀ (t : List Chg) (a b z : Int), okV n m t a b → z ≤ n → lastE t z ≤ n
  | [], a, b, z, h, hz => hz
  | c :: t, a, b, z, h, hz => by
    obtain ⟨⟨q1, q2, q3, q4, q5, q6, q7, q8, q9, q10⟩, ht⟩ := h
    exact lastE_le n m t _ _ _ ht (by omega)
theorem lastE_ge (n m : Int) : ∀ (t : List Chg) (a b z : Int), okV n m t a b → z ≤ a → z ≤ lastE t z
  | [], a, b, z, h, hz => Int.le_refl _
  | c :: t, a, b, z, h, hz => by
    obtain ⟨⟨q1, q2, q3, q4, q5, q6, q7, q8, q9, q10⟩, ht⟩ := h
    have := lastE_ge n m t _ _ (c.f0 + c.f1) ht (Int.le_refl _)
    rw [lastE]
    omega
end Go.Proofs.YtecjoofjiockkaaGreatDoor.Pure
namespace Go.Proofs.YtecjoofjiockkaaGreatDoor.Pure
open Go.RowKit Go.Proofs.YtecjoofjiockkaaGreatDoor.Pp Go.Proofs.YtecjoofjiockkaaGreatDoor.Ext Go.Proofs.YtecjoofjiockkaaGreatDoorW.PrintWords Go.Proofs.YtecjoofjiockkaaGreatDoorW.PrintLast Go.Proofs.YtecjoofjiockkaaGreatDoorW.PrintMore
set_option linter.unusedVariables false
set_option linter.unusedSimpArgs false
theorem ends_at (n f0 le ctx : Int) (h0 : 0 ≤ ctx ∧ ctx ≤ 2147483647) (hf : 0 ≤ f0 ∧ f0 ≤ n) (hl : f0 ≤ le ∧ le ≤ n) (hn : n ≤ 4194304) : ∃ st e : Int, mx (wrap64 (f0 - ctx)) 0 = st ∧ wrap64 (f0 - mn ctx f0) = st ∧ wrap64 (n - le) = n - le ∧
    (ctx < n - le → wrap64 (le + ctx) = e) ∧ (¬ ctx < n - le → n = e) ∧ wrap64 (le + mn ctx (n - le)) = e ∧ 0 ≤ st ∧ st ≤ f0 ∧ le ≤ e ∧ e ≤ n := by
  have w1 : wrap64 (f0 - ctx) = f0 - ctx := w64' (by omega) (by omega)
  have w2 : wrap64 (n - le) = n - le := w64' (by omega) (by omega)
  have w3 : wrap64 (le + ctx) = le + ctx := w64' (by omega) (by omega)
  have w4 : wrap64 (le + (n - le)) = le + (n - le) := w64' (by omega) (by omega)
  have w5 : wrap64 (f0 - f0) = f0 - f0 := w64' (by omega) (by omega)
  refine ⟨if f0 < ctx then 0 else f0 - ctx, if ctx < n - le then le + ctx else n, ?_, ?_, w2, ?_, ?_, ?_, ?_, ?_, ?_, ?_⟩
  · rw [w1]; unfold mx; by_cases h : f0 < ctx
    · rw [if_pos (by omega), if_pos h]
    · rw [if_neg (by omega), if_neg h]
  · unfold mn; by_cases h : f0 < ctx
    · rw [if_pos h, if_pos h, w5]; omega
    · rw [if_neg h, if_neg h, w1]
  · intro h; rw [if_pos h, w3]
  · intro h; rw [if_neg h]
  · unfold mn; by_cases h : n - le < ctx
    · rw [if_pos h, w4, if_neg (by omega)]; omega
    · rw [if_neg h, w3]; by_cases h2 : ctx < n - le
      · rw [if_pos h2]
      · rw [if_neg h2]; omega
  · split <;> omega
  · split <;> omega
  · split <;> omega
  · split <;> omega
theorem hunk_same (A B : List ByteArray) (hA : A.length ≤ 4194304) (hB : B.length ≤ 4194304) (c : Chg) (t : List Chg) (hlen : (c :: t).length ≤ 4000000000) (a b : Int) (hv : okV (A.length : Int) (B.length : Int) (c :: t) a b) (ha : 0 ≤ a) (hb : 0 ≤ b) (ctx : Int) (h0 : 0 ≤ ctx ∧ ctx ≤ 2147483647) :
    ∃ R : HunkT, Ev (fun k => hunks_builder_hunk.f k A B (c :: t) ctx) R ∧ Ev (fun k => selvageref10_one.f k (c :: t) A B ctx) R ∧ R.2.2.2.2.2.length ≤ 4000000000 := by
  obtain ⟨⟨q1, q2, q3, q4, q5, q6, q7, q8, q9, q10⟩, ht⟩ := hv
  have g1 := lastE_ge _ _ t _ _ (c.f0 + c.f1) ht (Int.le_refl _)
  have g2 := lastE_le _ _ t _ _ (c.f0 + c.f1) ht (by omega)
  have hle := lastE_rd (c :: t) 0 (by simp)
  obtain ⟨le, hled⟩ : ∃ le, le = lastE t (c.f0 + c.f1) := ⟨_, rfl⟩
  have hle2 : (rd_T49 (c :: t) (((c :: t).length - 1 : Nat) : Int)).f0 + (rd_T49 (c :: t) (((c :: t).length - 1 : Nat) : Int)).f1 = le := by rw [← hle, hled]; rfl
  rw [← hled] at g1 g2
  obtain ⟨st, e, e1, e2, e3, e4, e5, e6, e7, e8, e9, e10⟩ := ends_at (A.length : Int) c.f0 le ctx h0 (by omega) (by omega) (by omega)
  have hok : okG (A.length : Int) (B.length : Int) e (c :: t) st 0 := ⟨⟨e8, q1, by omega, by omega, q2, by omega⟩, okV_okG _ _ e e10 t _ _ _ _ ht (Int.le_refl _) (Int.le_refl _) (by rw [← hled]; exact e9) (fun hn => by subst hn; rw [hled] at e9; exact e9)⟩
  have n1 : wrap64 (c.f0 - st) = c.f0 - st := w64' (by omega) (by omega)
  have n2 : wrap64 (c.f2 - (c.f0 - st)) = c.f2 - (c.f0 - st) := w64' (by omega) (by omega)
  have hP := p_hunk_at A B hA hB st e ⟨e7, by omega⟩ (c :: t) hlen (c.f2 - (c.f0 - st)) (by omega) 0 (⟨#[]⟩ : ByteArray) (c :: t).length 0 st 0 0 [] (by omega) (by rw [List.drop_zero]; exact hok) e7 (by omega) (by omega) (by simp; omega)
  have hR := r_one_at A B hA hB st e (c.f2 - (c.f0 - st)) ⟨e7, by omega⟩ (c :: t) hlen (by simp) (by show wrap64 (c.f2 - wrap64 (c.f0 - st)) = _; rw [n1, n2]) (by omega) (c :: t).length 0 st 0 [] (by omega) (by rw [List.drop_zero]; exact hok) e7 (by omega) (by simp; omega)
  rw [List.drop_zero, List.nil_append] at hP hR
  obtain ⟨r1, r2⟩ := rows_cnt A B e (c :: t) st 0 hok e7 (by omega)
  have r3 := rows_length A B e (c :: t) st 0 hok e7 (by omega)
  have he : hunkR st e (c.f2 - (c.f0 - st)) (0 + dM (c :: t) + (e - st)) (⟨#[]⟩ : ByteArray) (rowsG A B st (c :: t) e) = oneR st (c.f2 - (c.f0 - st)) (rowsG A B st (c :: t) e) := by
    unfold hunkR oneR
    rw [r1, r2, show 0 + dM (c :: t) + (e - st) = dM (c :: t) + (e - st) by omega]
  have l0 : (0 : Int) < ((c :: t).length : Int) := by simp
  have l1 : wrap64 (((c :: t).length : Int) - 1) = (((c :: t).length - 1 : Nat) : Int) := by rw [w64' (by omega) (by omega)]; omega
  have l2 : (0 : Int) ≤ (((c :: t).length - 1 : Nat) : Int) := by omega
  have l3 : (((c :: t).length - 1 : Nat) : Int) < ((c :: t).length : Int) := by omega
  have l4 : wrap64 le = le := w64' (by omega) (by omega)
  refine ⟨oneR st (c.f2 - (c.f0 - st)) (rowsG A B st (c :: t) e), ?_, ?_, by show (rowsG A B st (c :: t) e).length ≤ _; omega⟩
  · rw [he] at hP
    have hJ : Ev (fun k => hunks_builder_hunk.j0 k (c :: t) st e A B c.f0 c.f1 c.f2 c.f3) (oneR st (c.f2 - (c.f0 - st)) (rowsG A B st (c :: t) e)) :=
      Ev.step (fun k => by rw [hunks_builder_hunk.j0, n1, n2]; rfl) hP
    refine Ev.same (fun k => ?_) hJ
    unfold hunks_builder_hunk.f
    rw [if_pos l0, l1, if_pos l2, if_pos l3, hle2, l4, e3]
    show (if ctx < (A.length : Int) - le then hunks_builder_hunk.j0 k (c :: t) (mx (wrap64 (c.f0 - ctx)) 0) (wrap64 (le + ctx)) A B c.f0 c.f1 c.f2 c.f3 else hunks_builder_hunk.j0 k (c :: t) (mx (wrap64 (c.f0 - ctx)) 0) (A.length : Int) A B c.f0 c.f1 c.f2 c.f3) = _
    by_cases hc : ctx < (A.length : Int) - le
    · rw [if_pos hc, e1, e4 hc]
    · rw [if_neg hc, e1, e5 hc]
  · refine Ev.same (fun k => ?_) hR
    unfold selvageref10_one.f
    rw [l1, if_pos l2, if_pos l3, if_pos l0, hle2, l4, e3, e6]
    show selvageref10_one.l0 k (c :: t) A B (wrap64 (c.f0 - mn ctx c.f0)) e [] (wrap64 (c.f0 - mn ctx c.f0)) 0 = _
    rw [e2]
    rfl
end Go.Proofs.YtecjoofjiockkaaGreatDoor.Pure
namespace Go.Proofs.YtecjoofjiockkaaGreatDoor.Pure
open Go.RowKit Go.Proofs.YtecjoofjiockkaaGreatDoor.Pp Go.Proofs.YtecjoofjiockkaaGreatDoor.Ext Go.Proofs.YtecjoofjiockkaaGreatDoorW.PrintWords Go.Proofs.YtecjoofjiockkaaGreatDoorW.PrintLast Go.Proofs.YtecjoofjiockkaaGreatDoorW.PrintMore
set_option linter.unusedVariables false
set_option linter.unusedSimpArgs false
def hunkOf (R : HunkT) : Hunk := ⟨R.1, R.2.1, R.2.2.1, R.2.2.2.1, R.2.2.2.2.1, R.2.2.2.2.2⟩
theorem grp (L : List Chg) (i j : Nat) (hij : i < j) (hj : j ≤ L.length) : ∃ c t, (L.take ((j : Nat) : Int).toNat).drop ((i : Nat) : Int).toNat = c :: t ∧ (c :: t).length ≤ L.length := by
  obtain ⟨g, hg⟩ : ∃ g, g = (L.take ((j : Nat) : Int).toNat).drop ((i : Nat) : Int).toNat := ⟨_, rfl⟩
  have hl : g.length = j - i := by rw [hg, List.length_drop, List.length_take, Int.toNat_natCast, Int.toNat_natCast]; omega
  rw [← hg]
  cases g with
  | nil => simp at hl; omega
  | cons c t => exact ⟨c, t, rfl, by omega⟩
theorem okV_at (n m : Int) : ∀ (s : List Chg) (i : Nat) (a b : Int), okV n m s a b → 0 ≤ a → 0 ≤ b → (h : i < s.length) → 0 ≤ (rd_T49 s (i : Int)).f0 ∧ 0 ≤ (rd_T49 s (i : Int)).f1 ∧ (rd_T49 s (i : Int)).f0 + (rd_T49 s (i : Int)).f1 ≤ n := by
  intro s i a b h ha hb hi
  obtain ⟨a', b', h1, h2, h3⟩ := okV_drop n m s i a b h ha hb
  rw [drop49 s i hi] at h3
  obtain ⟨⟨q1, q2, q3, q4, q5, q6, q7, q8, q9, q10⟩, _⟩ := h3
  exact ⟨by omega, q1, by omega⟩
theorem gap_at (n f0 p0 p1 c : Int) (hn : n ≤ 4194304) (h1 : 0 ≤ f0 ∧ f0 ≤ n) (h2 : 0 ≤ p0 ∧ 0 ≤ p1 ∧ p0 + p1 ≤ n) (hc : 0 ≤ c ∧ c ≤ 2147483647) :
    wrap64 (wrap64 (f0 - p0) - p1) = f0 - (p0 + p1) ∧ wrap64 (f0 - wrap64 (p0 + p1)) = f0 - (p0 + p1) ∧ wrap64 (2 * c) = 2 * c := by
  have w1 : wrap64 (f0 - p0) = f0 - p0 := w64' (by omega) (by omega)
  have w2 : wrap64 (p0 + p1) = p0 + p1 := w64' (by omega) (by omega)
  rw [w1, w2]
  refine ⟨?_, w64' (by omega) (by omega), w64' (by omega) (by omega)⟩
  rw [w64' (by omega) (by omega)]
  omega
structure Fine (l : List Hunk) (u : Nat) : Prop where
  len : l.length ≤ u
  rows : ∀ h ∈ l, h.f5.length ≤ 4000000000
theorem Fine.snoc {l : List Hunk} {u : Nat} (h : Fine l u) {R : HunkT} (hR : R.2.2.2.2.2.length ≤ 4000000000) : Fine (l ++ [hunkOf R]) (u + 1) := by
  refine ⟨by have := h.len; simp; omega, fun x hx => ?_⟩
  rcases List.mem_append.mp hx with hx | hx
  · exact h.rows x hx
  · obtain rfl : x = hunkOf R := by simpa using hx
    exact hR
theorem groups_at (A B : List ByteArray) (hA : A.length ≤ 4194304) (hB : B.length ≤ 4194304) (L : List Chg) (hL : L.length ≤ 4000000000) (hv : okV (A.length : Int) (B.length : Int) L 0 0) (ctx : Int) (h0 : 0 ≤ ctx ∧ ctx ≤ 2147483647) (d : Nat) :
    ∀ (i j : Nat) (out : List Hunk), i < j → j + d = L.length → Fine out i →
    ∃ res, Fine res L.length ∧ Ev (fun k => hunks_Build.l2 k L ctx out (i : Int) (j : Int) A B) (res, none) ∧ Ev (fun k => selvageref10_Build.l1 k A B ctx L out (i : Int) (j : Int)) (res, 0) := by
  have hone : ∀ i j : Nat, i < j → j ≤ L.length → ∃ R : HunkT, Ev (fun k => hunks_builder_hunk.f k A B ((L.take ((j : Nat) : Int).toNat).drop ((i : Nat) : Int).toNat) ctx) R ∧ Ev (fun k => selvageref10_one.f k ((L.take ((j : Nat) : Int).toNat).drop ((i : Nat) : Int).toNat) A B ctx) R ∧ R.2.2.2.2.2.length ≤ 4000000000 := by
    intro i j hij hj
    have hv1 := okV_take _ _ L ((j : Nat) : Int).toNat 0 0 hv (by omega) (by omega)
    obtain ⟨a, b, ha, hb, hv2⟩ := okV_drop _ _ _ ((i : Nat) : Int).toNat 0 0 hv1 (Int.le_refl _) (Int.le_refl _)
    obtain ⟨c, t, he, hl⟩ := grp L i j hij hj
    rw [he] at hv2 ⊢
    exact hunk_same A B hA hB c t (by omega) a b hv2 ha hb ctx h0
  induction d with
  | zero =>
    intro i j out hij hj hf
    obtain ⟨R, r1, r2, r3⟩ := hone i j hij (by omega)
    have hf2 := hf.len
    have c1 : ¬ (j : Int) < (L.length : Int) := by omega
    have c2 : (0 : Int) ≤ (i : Int) := by omega
    have c3 : (i : Int) ≤ (j : Int) := by omega
    have c4 : (j : Int) ≤ (L.length : Int) := by omega
    have c5 : out.length < 1954687338268 := by omega
    have c6 : (j : Int) = (L.length : Int) := by omega
    have w1 : wrap64 ((j : Int) + 1) = ((j + 1 : Nat) : Int) := w_add j 1 (by omega)
    have c7 : ¬ ((j + 1 : Nat) : Int) ≤ (L.length : Int) := by omega
    refine ⟨out ++ [hunkOf R], ⟨by have := (hf.snoc r3).len; omega, (hf.snoc r3).rows⟩, ?_, ?_⟩
    · refine Ev.step (fun k => by rw [hunks_Build.l2, if_neg c1, if_pos c2, if_pos c3, if_pos c4]) (Ev.bind r1 (Ev.same (fun k => if_pos c5) ?_))
      exact Ev.step (f := fun _ => some (out ++ [hunkOf R], none)) (fun k => by rw [hunks_Build.l1, if_neg c1]; rfl) (Ev.pure _)
    · refine Ev.step (fun k => by rw [selvageref10_Build.l1, if_pos c4, if_pos c6, if_pos c2, if_pos c3]) (Ev.bind r2 (Ev.same (fun k => if_pos c5) ?_))
      exact Ev.step (f := fun _ => some (out ++ [hunkOf R], 0)) (fun k => by rw [selvageref10_Build.l1, w1, if_neg c7]; rfl) (Ev.pure _)
  | succ d ih =>
    intro i j out hij hj hf
    have hjl : j < L.length := by omega
    have hf2 := hf.len
    have c1 : (j : Int) < (L.length : Int) := by omega
    have c0 : (0 : Int) ≤ (j : Int) := by omega
    have c2 : (0 : Int) ≤ (i : Int) := by omega
    have c3 : (i : Int) ≤ (j : Int) := by omega
    have c4 : (j : Int) ≤ (L.length : Int) := by omega
    have c5 : out.length < 1954687338268 := by omega
    have c6 : ¬ (j : Int) = (L.length : Int) := by omega
    have w1 : wrap64 ((j : Int) + 1) = ((j + 1 : Nat) : Int) := w_add j 1 (by omega)
    have w2 : wrap64 ((j : Int) - 1) = ((j - 1 : Nat) : Int) := by rw [w64' (by omega) (by omega)]; omega
    have c7 : (0 : Int) ≤ ((j - 1 : Nat) : Int) := by omega
    have c8 : ((j - 1 : Nat) : Int) < (L.length : Int) := by omega
    obtain ⟨x, hx⟩ : ∃ x, x = rd_T49 L (j : Int) := ⟨_, rfl⟩
    obtain ⟨y, hy⟩ : ∃ y, y = rd_T49 L ((j - 1 : Nat) : Int) := ⟨_, rfl⟩
    have hx1 := okV_at _ _ L j 0 0 hv (Int.le_refl _) (Int.le_refl _) hjl
    have hy1 := okV_at _ _ L (j - 1) 0 0 hv (Int.le_refl _) (Int.le_refl _) (by omega)
    rw [← hx] at hx1
    rw [← hy] at hy1
    obtain ⟨g1, g2, g3⟩ := gap_at (A.length : Int) x.f0 y.f0 y.f1 ctx (by omega) (by omega) (by omega) h0
    by_cases hg : x.f0 - (y.f0 + y.f1) ≤ 2 * ctx
    · obtain ⟨res, h1, h2, h3⟩ := ih i (j + 1) out (by omega) (by omega) hf
      refine ⟨res, h1, ?_, ?_⟩
      · exact Ev.step (fun k => by rw [hunks_Build.l2, if_pos c1, if_pos c0, w2, if_pos c7, if_pos c8, ← hx, ← hy, g1, g3, if_pos hg, w1]) h2
      · exact Ev.step (fun k => by rw [selvageref10_Build.l1, if_pos c4, if_neg c6, if_pos c0, if_pos c1, w2, if_pos c7, if_pos c8, ← hx, ← hy, g2, g3, if_neg (show ¬ x.f0 - (y.f0 + y.f1) > 2 * ctx by omega), w1]) h3
    · obtain ⟨R, r1, r2, r3⟩ := hone i j hij (by omega)
      have hf3 := hf.snoc r3
      obtain ⟨res, h1, h2, h3⟩ := ih j (j + 1) (out ++ [hunkOf R]) (by omega) (by omega) ⟨by have := hf3.len; omega, hf3.rows⟩
      refine ⟨res, h1, ?_, ?_⟩
      · refine Ev.step (fun k => by rw [hunks_Build.l2, if_pos c1, if_pos c0, w2, if_pos c7, if_pos c8, ← hx, ← hy, g1, g3, if_neg hg, if_pos c2, if_pos c3, if_pos c4]) (Ev.bind r1 (Ev.same (fun k => if_pos c5) ?_))
        exact Ev.step (fun k => by rw [hunks_Build.l1, if_pos c1, w1]; rfl) h2
      · refine Ev.step (fun k => by rw [selvageref10_Build.l1, if_pos c4, if_neg c6, if_pos c0, if_pos c1, w2, if_pos c7, if_pos c8, ← hx, ← hy, g2, g3, if_pos (show x.f0 - (y.f0 + y.f1) > 2 * ctx by omega), if_pos c2, if_pos c3]) (Ev.bind r2 (Ev.same (fun k => if_pos c5) ?_))
        exact Ev.same (fun k => by rw [w1]; rfl) h3
end Go.Proofs.YtecjoofjiockkaaGreatDoor.Pure
namespace Go.Proofs.YtecjoofjiockkaaGreatDoor.Pure
open Go.RowKit Go.Proofs.YtecjoofjiockkaaGreatDoor.Pp Go.Proofs.YtecjoofjiockkaaGreatDoor.Ext Go.Proofs.YtecjoofjiockkaaGreatDoorW.PrintWords Go.Proofs.YtecjoofjiockkaaGreatDoorW.PrintLast Go.Proofs.YtecjoofjiockkaaGreatDoorW.PrintMore
set_option linter.unusedVariables false
set_option linter.unusedSimpArgs false
theorem txt_size (A : List ByteArray) (hs : ∀ s ∈ A, s.size ≤ 4000000000) (z : Int) (h0 : 0 ≤ z) (h1 : z < (A.length : Int)) : (rdOf ByteArray.empty A z).size ≤ 4000000000 := by
  obtain ⟨u, rfl⟩ := Int.eq_ofNat_of_zero_le h0
  rw [rd_nat]
  have hu : u < A.length := by omega
  refine hs _ ?_
  rw [List.getD_eq_getElem?_getD, List.getElem?_eq_getElem hu]
  exact List.getElem_mem hu
theorem stay_loop (A B : List ByteArray) (hsA : ∀ s ∈ A, s.size ≤ 4000000000) (hsB : ∀ s ∈ B, s.size ≤ 4000000000) (L : List Chg) (ctx : Int) (res : List Hunk) (u : Nat) (hres : Fine res u)
    (h2 : Ev (fun k => hunks_Build.l1 k L ctx [] 0 A B) (res, none)) (h3 : Ev (fun k => selvageref10_Build.l1 k A B ctx L [] 0 1) (res, 0)) (P : List S94) (hP : P.length ≤ 4000000000) (d : Nat) :
    ∀ (i : Nat) (a b : Int), i + d = P.length → inO (A.length : Int) (B.length : Int) (P.drop i) a b → 0 ≤ a → 0 ≤ b →
    ∃ res' err, Fine res' u ∧ Ev (fun k => hunks_Build.l0 k L A B ctx P (P.length : Int) (i : Int)) (res', err) ∧ Ev (fun k => selvageref10_Build.l0 k A B ctx L P (i : Int)) (res', numE err) := by
  induction d with
  | zero =>
    intro i a b h hin ha hb
    have c1 : ¬ (i : Int) < (P.length : Int) := by omega
    exact ⟨res, none, hres, Ev.step (fun k => by rw [hunks_Build.l0, if_neg c1]) h2, Ev.step (fun k => by rw [selvageref10_Build.l0, if_neg c1]) h3⟩
  | succ d ih =>
    intro i a b h hin ha hb
    have hi : i < P.length := by omega
    obtain ⟨p, hp⟩ : ∃ p, p = rd_T94 P (i : Int) := ⟨_, rfl⟩
    have hdr : P.drop i = p :: P.drop (i + 1) := by rw [hp]; exact drop94 P i hi
    rw [hdr] at hin
    obtain ⟨q1, q2, q3, q4, q5⟩ := hin
    have c1 : (i : Int) < (P.length : Int) := by omega
    have c0 : (0 : Int) ≤ (i : Int) := by omega
    have w1 : wrap64 ((i : Int) + 1) = ((i + 1 : Nat) : Int) := w_add i 1 (by omega)
    have b1 : 0 ≤ p.f0 := by omega
    have b2 : 0 ≤ p.f1 := by omega
    have s1 := txt_size A hsA p.f0 b1 q3
    have s2 := txt_size B hsB p.f1 b2 q4
    by_cases hw : (whole (rdOf ByteArray.empty A p.f0) != whole (rdOf ByteArray.empty B p.f1)) = true
    · refine ⟨[], some 61, ⟨by simp, fun x hx => by cases hx⟩, ?_, ?_⟩
      · exact Ev.step (f := fun _ => some ([], some 61)) (fun k => by rw [hunks_Build.l0, if_pos c1, if_pos c0, if_pos c1, ← hp, if_pos b1, if_pos q3, whole_at _ s1, Option.bind_some, if_pos b2, if_pos q4, whole_at _ s2, Option.bind_some, if_pos hw]) (Ev.pure _)
      · exact Ev.step (f := fun _ => some ([], 61)) (fun k => by rw [selvageref10_Build.l0, if_pos c1, if_pos c0, ← hp, if_pos b1, if_pos q3, r_whole_at _ s1, Option.bind_some, if_pos b2, if_pos q4, r_whole_at _ s2, Option.bind_some, if_pos hw]) (Ev.pure _)
    · obtain ⟨res', err, g1, g2, g3⟩ := ih (i + 1) _ _ (by omega) q5 (by omega) (by omega)
      refine ⟨res', err, g1, ?_, ?_⟩
      · exact Ev.step (fun k => by rw [hunks_Build.l0, if_pos c1, if_pos c0, if_pos c1, ← hp, if_pos b1, if_pos q3, whole_at _ s1, Option.bind_some, if_pos b2, if_pos q4, whole_at _ s2, Option.bind_some, if_neg hw, w1]) g2
      · exact Ev.step (fun k => by rw [selvageref10_Build.l0, if_pos c1, if_pos c0, ← hp, if_pos b1, if_pos q3, r_whole_at _ s1, Option.bind_some, if_pos b2, if_pos q4, r_whole_at _ s2, Option.bind_some, if_neg hw, w1]) g3
theorem none_fine (u : Nat) : Fine [] u := ⟨by simp, fun x hx => by cases hx⟩
theorem build_same (S : List Chg) (A B : List ByteArray) (ctx : Int) (hS : S.length ≤ 3000000000) (hlA : A.length ≤ 4000000000) (hlB : B.length ≤ 4000000000) (hsA : ∀ s ∈ A, s.size ≤ 4000000000) (hsB : ∀ s ∈ B, s.size ≤ 4000000000) :
    ∃ res err, Fine res 4000000000 ∧ Ev (fun k => hunks_Build.f k S A B ctx) (res, err) ∧ Ev (fun k => selvageref10_Build.f k S A B ctx) (res, numE err) := by
  by_cases hc : ctx < 0 ∨ ctx > 2147483647
  · refine ⟨[], some 1, none_fine _, ?_, ?_⟩
    · have hj : Ev (fun k => hunks_Build.j0 k S A B ctx true) ([], some 1) := Ev.step (f := fun _ => some ([], some 1)) (fun k => by rw [hunks_Build.j0, if_pos rfl]) (Ev.pure _)
      refine Ev.same (fun k => ?_) hj
      unfold hunks_Build.f
      split
      · rfl
      · rw [decide_eq_true (by omega : ctx > 2147483647)]
    · have hj : Ev (fun k => selvageref10_Build.j0 k S A B ctx true) ([], 1) := Ev.step (f := fun _ => some ([], 1)) (fun k => by rw [selvageref10_Build.j0, if_pos rfl]) (Ev.pure _)
      refine Ev.same (fun k => ?_) hj
      unfold selvageref10_Build.f
      split
      · rfl
      · rw [decide_eq_true (by omega : ctx > 2147483647)]
  have e1 : ∀ k, hunks_Build.f k S A B ctx = hunks_Build.j0 k S A B ctx false := fun k => by
    unfold hunks_Build.f; rw [if_neg (by omega), decide_eq_false (by omega : ¬ ctx > 2147483647)]
  have e2 : ∀ k, selvageref10_Build.f k S A B ctx = selvageref10_Build.j0 k S A B ctx false := fun k => by
    unfold selvageref10_Build.f; rw [if_neg (by omega), decide_eq_false (by omega : ¬ ctx > 2147483647)]
  have hj0 : ∀ (res : List Hunk) (err : Option Int), Ev (fun k => hunks_Build.j1 k S A B ctx (!(validL A && validL B))) (res, err) → Ev (fun k => selvageref10_Build.j1 k S A B ctx (!(validL A && validL B))) (res, numE err) →
      Ev (fun k => hunks_Build.f k S A B ctx) (res, err) ∧ Ev (fun k => selvageref10_Build.f k S A B ctx) (res, numE err) := by
    intro res err h1 h2
    constructor
    · refine Ev.same e1 (Ev.step (fun k => by rw [hunks_Build.j0, if_neg (by simp)]) (Ev.bind (p_valid A hlA hsA) ?_))
      cases hA : validL A with
      | true => rw [hA, Bool.true_and] at h1; exact Ev.same (fun k => if_pos rfl) (Ev.bind (p_valid B hlB hsB) h1)
      | false => rw [hA, Bool.false_and] at h1; exact Ev.same (fun k => if_neg (by simp)) h1
    · refine Ev.same e2 (Ev.step (fun k => by rw [selvageref10_Build.j0, if_neg (by simp)]) (Ev.bind (r_valid A hlA hsA) ?_))
      cases hA : validL A with
      | true => rw [hA, Bool.true_and] at h2; exact Ev.same (fun k => if_pos rfl) (Ev.bind (r_valid B hlB hsB) h2)
      | false => rw [hA, Bool.false_and] at h2; exact Ev.same (fun k => if_neg (by simp)) h2
  cases hvv : (validL A && validL B) with
  | false =>
    rw [hvv] at hj0
    refine ⟨[], some 3, none_fine _, hj0 [] (some 3) ?_ ?_⟩
    · exact Ev.step (f := fun _ => some ([], some 3)) (fun k => by rw [hunks_Build.j1, if_pos (by rfl)]) (Ev.pure _)
    · exact Ev.step (f := fun _ => some ([], 3)) (fun k => by rw [selvageref10_Build.j1, if_pos (by rfl)]) (Ev.pure _)
  | true =>
    rw [hvv] at hj0
    have hn := norm_at S (by omega) (A.length : Int) (B.length : Int) (by omega) (by omega)
    have hr := rnorm_at S (by omega) (A.length : Int) (B.length : Int) (by omega) (by omega)
    obtain ⟨L, hLd⟩ : ∃ L, L = (normS S (A.length : Int) (B.length : Int)).1 := ⟨_, rfl⟩
    cases he : (normS S (A.length : Int) (B.length : Int)).2 with
    | some e =>
      have hne : e ≠ 0 := by
        unfold normS at he
        split at he
        · cases he
        · exact validS_some he
      refine ⟨[], some e, none_fine _, hj0 [] (some e) ?_ ?_⟩
      · exact Ev.step (fun k => by rw [hunks_Build.j1, if_neg (by simp)]) (Ev.bind hn (Ev.same (fun k => by rw [he]; exact if_neg (by simp)) (Ev.pure _)))
      · rw [he] at hr
        exact Ev.step (fun k => by rw [selvageref10_Build.j1, if_neg (by simp)]) (Ev.bind hr (Ev.same (fun k => if_neg hne) (Ev.pure _)))
    | none =>
      have hpair : normS S (A.length : Int) (B.length : Int) = (L, none) := by rw [hLd, ← he]
      obtain ⟨h1, h2, h3, h4⟩ := normS_valid hpair
      have hL : L.length ≤ 4000000000 := by omega
      have hok := okV_of _ _ L 0 0 h3 (by omega) (by omega)
      have hpp := pairs_at L hL (A.length : Int) (B.length : Int) (by omega) (by omega) h1 h2 h3
      have hrp := rpairs_at L hL (A.length : Int) (B.length : Int) (by omega) (by omega) h1 h2 h3
      have hpl := pairsL_length (A.length : Int) (B.length : Int) L 0 0 h3 (by omega)
      have hio := inO_pairs (A.length : Int) (B.length : Int) L 0 0 h3 (by omega) (by omega)
      obtain ⟨res, g1, g2, g3⟩ : ∃ res, Fine res 4000000000 ∧ Ev (fun k => hunks_Build.l1 k L ctx [] 0 A B) (res, none) ∧ Ev (fun k => selvageref10_Build.l1 k A B ctx L [] 0 1) (res, 0) := by
        by_cases h0 : L.length = 0
        · refine ⟨[], none_fine _, ?_, ?_⟩
          · exact Ev.step (f := fun _ => some ([], none)) (fun k => by rw [hunks_Build.l1, if_neg (by omega)]) (Ev.pure _)
          · exact Ev.step (f := fun _ => some ([], 0)) (fun k => by rw [selvageref10_Build.l1, if_neg (by omega)]) (Ev.pure _)
        · obtain ⟨res, g1, g2, g3⟩ := groups_at A B (by omega) (by omega) L hL hok ctx (by omega) (L.length - 1) 0 1 [] (by omega) (by omega) (none_fine _)
          refine ⟨res, ⟨by have := g1.len; omega, g1.rows⟩, ?_, g3⟩
          have w : wrap64 ((0 : Int) + 1) = 1 := by rw [w64' (by omega) (by omega)]; rfl
          exact Ev.step (fun k => by rw [hunks_Build.l1, if_pos (by omega), w]; rfl) g2
      obtain ⟨res', err, k1, k2, k3⟩ := stay_loop A B hsA hsB L ctx res 4000000000 g1 g2 g3 (pairsL (A.length : Int) L 0 0) (by omega) (pairsL (A.length : Int) L 0 0).length 0 0 0 (by omega) (by rw [List.drop_zero]; exact hio) (Int.le_refl _) (Int.le_refl _)
      refine ⟨res', err, k1, hj0 res' err ?_ ?_⟩
      · rw [hpair] at hn
        exact Ev.step (fun k => by rw [hunks_Build.j1, if_neg (by simp)]) (Ev.bind hn (Ev.same (fun k => if_pos rfl) (Ev.bind hpp (Ev.same (fun k => if_pos rfl) k2))))
      · rw [hpair] at hr
        exact Ev.step (fun k => by rw [selvageref10_Build.j1, if_neg (by simp)]) (Ev.bind hr (Ev.same (fun k => if_pos rfl) (Ev.bind hrp k3)))
end Go.Proofs.YtecjoofjiockkaaGreatDoor.Pure
namespace Go.Proofs.YtecjoofjiockkaaGreatDoor.Pure
open Go.RowKit Go.Proofs.YtecjoofjiockkaaGreatDoor.Pp Go.Proofs.YtecjoofjiockkaaGreatDoor.Ext Go.Proofs.YtecjoofjiockkaaGreatDoorW.PrintWords Go.Proofs.YtecjoofjiockkaaGreatDoorW.PrintLast Go.Proofs.YtecjoofjiockkaaGreatDoorW.PrintMore
set_option linter.unusedVariables false
set_option linter.unusedSimpArgs false
theorem same_texts (A : List ByteArray) (hA : A.length ≤ 4000000000) (d : Nat) : ∀ i : Nat, i + d = A.length → Ev (fun k => selvagelaw10_sameTexts.l0 k A A (i : Int)) true := by
  induction d with
  | zero =>
    intro i h
    exact Ev.step (f := fun _ => some true) (fun k => by rw [selvagelaw10_sameTexts.l0, if_neg (by omega)]) (Ev.pure _)
  | succ d ih =>
    intro i h
    have w1 : wrap64 ((i : Int) + 1) = ((i + 1 : Nat) : Int) := w_add i 1 (by omega)
    exact Ev.step (fun k => by rw [selvagelaw10_sameTexts.l0, if_pos (by omega), if_pos (by omega), if_pos (by omega), if_pos rfl, w1]) (ih (i + 1) (by omega))
theorem same_texts_at (A : List ByteArray) (hA : A.length ≤ 4000000000) : Ev (fun k => selvagelaw10_sameTexts.f k A A) true := by
  unfold selvagelaw10_sameTexts.f
  exact Ev.same (fun k => if_pos rfl) (same_texts A hA A.length 0 (by omega))
theorem build_tail (S : List Chg) (A B : List ByteArray) (ctx : Int) (hS : S.length ≤ 3000000000) (d : Nat) : ∀ i : Nat, i + d = S.length → Ev (fun k => selvagelaw10_HunksBuild.l0 k S (i : Int) S A B ctx) true := by
  induction d with
  | zero =>
    intro i h
    exact Ev.step (fun k => by rw [selvagelaw10_HunksBuild.l0, if_neg (by omega)]) (Ev.bind ev_works (Ev.pure _))
  | succ d ih =>
    intro i h
    have w1 : wrap64 ((i : Int) + 1) = ((i + 1 : Nat) : Int) := w_add i 1 (by omega)
    exact Ev.step (fun k => by rw [selvagelaw10_HunksBuild.l0, if_pos (by omega), if_pos (by omega), if_pos (by omega), if_neg (by simp), w1]) (ih (i + 1) (by omega))
theorem build_law (S : List Chg) (A B : List ByteArray) (ctx : Int) (hS : S.length ≤ 3000000000) (hlA : A.length ≤ 4000000000) (hlB : B.length ≤ 4000000000) (hsA : ∀ s ∈ A, s.size ≤ 4000000000) (hsB : ∀ s ∈ B, s.size ≤ 4000000000) :
    Ev (fun k => selvagelaw10_HunksBuild.f k S A B ctx) true := by
  have e1 : selvagelaw10_changes.f S = some S := by unfold selvagelaw10_changes.f; rw [if_pos (by simp; omega), List.nil_append]
  have e2 : selvagelaw10_texts.f A = some A := by unfold selvagelaw10_texts.f; rw [if_pos (by simp; omega), List.nil_append]
  have e3 : selvagelaw10_texts.f B = some B := by unfold selvagelaw10_texts.f; rw [if_pos (by simp; omega), List.nil_append]
  obtain ⟨res, err, hf, h1, h2⟩ := build_same S A B ctx hS hlA hlB hsA hsB
  have hl := hf.len
  have hj : Ev (fun k => selvagelaw10_HunksBuild.j0 k S ((S.length : Int) != (S.length : Int)) S A B ctx) true :=
    Ev.step (fun k => by rw [selvagelaw10_HunksBuild.j0, if_neg (by simp)]; rfl) (build_tail S A B ctx hS S.length 0 (by omega))
  refine Ev.same (fun k => by unfold selvagelaw10_HunksBuild.f; rw [e1, Option.bind_some, e2, Option.bind_some, e3, Option.bind_some]) (Ev.bind h1 (Ev.bind h2 (Ev.bind (sameAll_at res hl hf.rows) (Ev.same (fun k => if_pos rfl) (Ev.bind (num_ev err) (Ev.same (fun k => if_pos rfl) (Ev.bind (same_texts_at A hlA) (Ev.same (fun k => if_pos rfl) (Ev.bind (same_texts_at B hlB) (Ev.same (fun k => if_pos rfl) hj))))))))))
theorem HunksBuild : ∀ (a0 : S40), Ext.ok40 a0 → Ext.wt40 a0 ≤ 1048576 → ∃ k, selvagelaw10_HunksBuild.f k a0.f0 a0.f1 a0.f2 a0.f3 = some true := by
  intro a0 _ hb
  unfold Ext.wt40 at hb
  have s0 : a0.f0.length ≤ (a0.f0.map Ext.wt49).sum := by
    have := len_sum Ext.wt49 1 (fun x => by unfold Ext.wt49; omega) a0.f0
    omega
  have s1 := len_sum (fun z : ByteArray => z.size + 1) 1 (fun x => by omega) a0.f1
  have s2 := len_sum (fun z : ByteArray => z.size + 1) 1 (fun x => by omega) a0.f2
  have t1 : ∀ s ∈ a0.f1, s.size ≤ 4000000000 := fun s hs => by
    have := mem_sum (fun z : ByteArray => z.size + 1) a0.f1 s hs
    omega
  have t2 : ∀ s ∈ a0.f2, s.size ≤ 4000000000 := fun s hs => by
    have := mem_sum (fun z : ByteArray => z.size + 1) a0.f2 s hs
    omega
  exact Ev.rounds (build_law a0.f0 a0.f1 a0.f2 a0.f3 (by omega) (by omega) (by omega) t1 t2)
end Go.Proofs.YtecjoofjiockkaaGreatDoor.Pure
